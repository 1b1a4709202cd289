/- Layer 9 (label): Read. -/
import Derived.Test.YtgmlhfencidahaaLabel3
import Derived.Deep.DeepCutAuto
namespace Go.Proofs.Ytgmlhfencidahaa
open Go Go.RowKit
set_option linter.unusedSimpArgs false
set_option linter.unusedVariables false

theorem eqb_any (A B : Option Addr) (n m q k : Nat) (xs bs : List UInt8) (w : World) (ha : Bs w A n xs) (hb : Bs w B m bs) :
    Calls Try.prog 29 #[.slice A n q, .slice B m k] w fun e w' => e = .returned (.bool (xs == bs)) ∧ w = w' := by
  have s1 := run_string_bs (P := Try.prog) q 26 9 5 Try.underlying26 Try.underlying5 Try.underlying9 ha
  have s2 := run_string_bs (P := Try.prog) k 26 9 5 Try.underlying26 Try.underlying5 Try.underlying9 hb
  go_enter Try.func29, Try.ntmps29
  go_wp2
  go_ret
  exact ⟨rfl, rfl⟩

def zRows : List NRow := labRows 0 0 0 0 0 0 0 0 0 false
theorem BoxOf.setAt {w : World} {g : Nat} {cs : Array Value} {t : TypeId} (h : BoxOf w g cs t) (i : Nat) (v : Value) : BoxOf (w.setCell ⟨g, i, none⟩ v) g (cs.setIfInBounds i v) t := by
  unfold BoxOf at *
  simp [World.setCell, Array.getElem?_modify, h]
theorem BoxOf.setElse {w : World} {g k : Nat} {cs : Array Value} {t : TypeId} (h : BoxOf w g cs t) (hk : g ≠ k) (i : Nat) (v : Value) : BoxOf (w.setCell ⟨k, i, none⟩ v) g cs t := by
  unfold BoxOf at *
  rw [Below.heap_setCell _ _ _ _ hk]; exact h
theorem lheap_lt {w : World} {m : Nat} {o : Obj} (h : w.heap[m]? = some o) : m < w.heap.size := (Array.getElem?_eq_some_iff.1 h).1
theorem linfo_int : ∃ i, Try.prog.info? 3 = some i ∧ i.zero = some (.int .i64 0) ∧ i.size = 1 ∧ i.bytes = 8 := info_parts (by kernel_rfl)
theorem zfields (w : World) : Calls Try.prog 28 #[.agg #[.int .u32 0, .int .u32 0, .int .i64 0, .int .i64 0, .int .i64 0, .int .i64 0, .int .i64 0, .int .i64 0, .int .i64 0, .bool false]] w fun e w' => ∃ g q, e = .returned (.slice (some ⟨g, 0, none⟩) 11 q) ∧
    (∀ i (hi : i < zRows.length), w'.cell? ⟨g, i * 3, none⟩ = some (.int .i64 (zRows[i].1 : Int)) ∧ w'.cell? ⟨g, i * 3 + 1, none⟩ = some (.int .i64 (zRows[i].2.1 : Int)) ∧ w'.cell? ⟨g, i * 3 + 2, none⟩ = some (.int .i64 (zRows[i].2.2 : Int))) ∧ Below w.heap.size w w' :=
  fields_any 0 0 0 0 0 0 0 0 0 false (by decide) (by decide) w
theorem zRows_fit : ∀ r ∈ zRows, 1 ≤ r.2.2 ∧ r.2.2 ≤ 4 ∧ r.2.1 + r.2.2 ≤ 17 := by decide

set_option maxRecDepth 100000 in
set_option maxHeartbeats 1000000 in
theorem lread_text (A : Option Addr) (n q : Nat) (h0 : n ≠ 0) (h1 : n ≠ 128) (w : World) :
    Calls Try.prog 17 #[.slice A n q] w fun e w' => e = .returned (.tuple #[.agg #[.int .u32 0, .int .u32 0, .int .i64 0, .int .i64 0, .int .i64 0, .int .i64 0, .int .i64 0, .int .i64 0, .int .i64 0, .bool false], .int .i64 3]) ∧ Below w.heap.size w w' := by
  have HT := Lib.hid (fun p k => take_text A n q p k h0 h1)
  clear h0 h1
  go_enter Try.func17, Try.ntmps17
  go_wp2_with fail
  have A0 := BoxOf.new w #[.int .u32 0, .int .u32 0, .int .i64 0, .int .i64 0, .int .i64 0, .int .i64 0, .int .i64 0, .int .i64 0, .int .i64 0, .bool false] 44
  have t0 := Ext.alloc (Below.refl w.heap.size w) (.cells #[.int .u32 0, .int .u32 0, .int .i64 0, .int .i64 0, .int .i64 0, .int .i64 0, .int .i64 0, .int .i64 0, .int .i64 0, .bool false] 44)
  refine (zfields _).mono ?_
  rintro e w2 ⟨g, q2, rfl, hc2, b2⟩
  have A2 := A0.next b2
  have t2 := Ext.trans t0 b2
  obtain ⟨q0, q1, q3⟩ := hc2 0 (by decide)
  have q0' : w2.cell? ⟨g, 0, none⟩ = some (.int .i64 76) := q0
  have q1' : w2.cell? ⟨g, 1, none⟩ = some (.int .i64 0) := q1
  have q3' : w2.cell? ⟨g, 2, none⟩ = some (.int .i64 1) := q3
  clear A0 t0 b2 q0 q1 q3 hc2
  go_wp2
  go_loopw [15] (fun i wr => i = .int .i64 0 ∧ wr = w2) (fun _ _ => 0)
  case atStart => exact ⟨rfl, rfl⟩
  case round =>
    obtain ⟨rfl, rfl⟩ := hrel
    have A3 := A2.alloc (.cells #[.int .i64 76, .int .i64 0, .int .i64 1] 66)
    have t3 := Ext.alloc t2 (.cells #[.int .i64 76, .int .i64 0, .int .i64 1] 66)
    clear A2 t2
    go_wp2_with fail
    refine (HT.out _ _ _).mono ?_
    rintro e w4 ⟨rfl, b4⟩
    have B := Lib.hid (A3.next b4)
    have t4 := Ext.trans t3 b4
    clear A3 t3 b4
    go_wp2_with (refine wpList_store_rowTo rfl 44 (.tmp 2) (.tmp 30) rfl rfl w.heap.size #[.int .u32 0, .int .u32 0, .int .i64 0, .int .i64 0, .int .i64 0, .int .i64 0, .int .i64 0, .int .i64 0, .int .i64 0, .bool false] rfl rfl 44 #[.int .u32 0, .int .u32 0, .int .i64 0, .int .i64 0, .int .i64 0, .int .i64 0, .int .i64 0, .int .i64 0, .int .i64 0, .bool false] B.out (by kernel_rfl) rfl (by kernel_rfl) ?_)
    exact bodyPost_ret (v := .tuple #[.agg #[.int .u32 0, .int .u32 0, .int .i64 0, .int .i64 0, .int .i64 0, .int .i64 0, .int .i64 0, .int .i64 0, .int .i64 0, .bool false], .int .i64 3]) (Eq.trans (results_row2 (P := Try.prog) (fn := Try.f17) (p := 2) (u := 3) (ty := 44) rfl _ _ w.heap.size 44 #[.int .u32 0, .int .u32 0, .int .i64 0, .int .i64 0, .int .i64 0, .int .i64 0, .int .i64 0, .int .i64 0, .int .i64 0, .bool false] (0, 0) _ rfl (B.out.set _) Try.underlying44 rfl (by kernel_rfl)) rfl) rfl ⟨rfl, Ext.setRow t4 (Nat.le_refl _) _⟩

def valsL (bs : List UInt8) (rows : List NRow) : List Value := rows.map fun r => Value.int .i64 (takeN (wholeL bs) r.2.1 r.2.2 : Int)
theorem valsL_len (bs : List UInt8) (rows : List NRow) : (valsL bs rows).length = rows.length := by simp [valsL]
theorem valsL_succ (bs : List UInt8) (rows : List NRow) (k : Nat) (h : k < rows.length) : valsL bs (rows.take (k + 1)) = valsL bs (rows.take k) ++ [.int .i64 (takeN (wholeL bs) rows[k].2.1 rows[k].2.2 : Int)] := by
  unfold valsL; rw [List.take_succ_eq_append_getElem h, List.map_append]; rfl

set_option maxRecDepth 100000 in
set_option maxHeartbeats 4000000 in
theorem lread_core (A : Option Addr) (n q : Nat) (bs : List UInt8) (hn : n = 0 ∨ n = 128) (id ev m c r l me lo dn on : Nat) (op : Bool) (hop : ((on : Int) == 1) = op) (hi : id < 4294967296) (he : ev < 4294967296)
    (hv : valsL bs zRows = [.int .i64 (takeN (wholeL bs) 0 1 : Int), .int .i64 (id : Int), .int .i64 (ev : Int), .int .i64 (m : Int), .int .i64 (c : Int), .int .i64 (r : Int), .int .i64 (l : Int), .int .i64 (me : Int), .int .i64 (lo : Int), .int .i64 (dn : Int), .int .i64 (on : Int)])
    (ws : List UInt8) (E : Int) (h5 : ∀ W, Calls Try.prog 18 #[.agg #[.int .u32 (id : Int), .int .u32 (ev : Int), .int .i64 (m : Int), .int .i64 (c : Int), .int .i64 (r : Int), .int .i64 (l : Int), .int .i64 (me : Int), .int .i64 (lostI lo), .int .i64 (dn : Int), .bool op]] W fun e w' => ∃ P k c, e = .returned (.tuple #[.slice P k c, .int .i64 E]) ∧ Bs w' P k ws ∧ Below W.heap.size W w')
    (R : Array Value) (C : Int) (hR' : ((E != 0) = true ∧ R = #[.int .u32 0, .int .u32 0, .int .i64 0, .int .i64 0, .int .i64 0, .int .i64 0, .int .i64 0, .int .i64 0, .int .i64 0, .bool false] ∧ C = 90) ∨ (E = 0 ∧ ws ≠ bs ∧ R = #[.int .u32 0, .int .u32 0, .int .i64 0, .int .i64 0, .int .i64 0, .int .i64 0, .int .i64 0, .int .i64 0, .int .i64 0, .bool false] ∧ C = 90) ∨ (E = 0 ∧ ws = bs ∧ R = #[.int .u32 (id : Int), .int .u32 (ev : Int), .int .i64 (m : Int), .int .i64 (c : Int), .int .i64 (r : Int), .int .i64 (l : Int), .int .i64 (me : Int), .int .i64 (lostI lo), .int .i64 (dn : Int), .bool op] ∧ C = 0))
    (w : World) (hb : Bs w A n bs) :
    Calls Try.prog 17 #[.slice A n q] w fun e w' => e = .returned (.tuple #[.agg R, .int .i64 C]) ∧ Below w.heap.size w w' := by
  obtain ⟨i0, hi0, hz0, hz1, hz2⟩ := linfo_int
  have HOP := Lib.hid hop
  have HV := Lib.hid hv
  have HW := Lib.hid h5
  have HR := Lib.hid hR'
  have W1 : Hid (IntKind.u32.wrap (id : Int) = id) := Lib.hid (IntWalk.u32_in _ (by omega))
  have W2 : Hid (IntKind.u32.wrap (ev : Int) = ev) := Lib.hid (IntWalk.u32_in _ (by omega))
  have HT : Hid (∀ p k W, 1 ≤ k ∧ k ≤ 4 → p + k ≤ 128 → Bs W A n bs → Calls Try.prog 22 #[.slice A n q, .int .i64 (p : Nat), .int .i64 (k : Nat)] W fun e w' => e = .returned (.tuple #[.int .i64 (takeN (wholeL bs) p k : Int), .int .i64 0]) ∧ Below W.heap.size W w') := Lib.hid (fun p k W hk hp hb => take_ok A n q bs hn p k hk hp W hb)
  have HB := Lib.hid hb
  clear hop hv h5 hR' hi he hb hn
  have hln : zRows.length = 11 := rfl
  have hft := Lib.hid zRows_fit
  go_enter Try.func17, Try.ntmps17
  go_wp2_with fail
  have A0 := BoxOf.new w #[.int .u32 0, .int .u32 0, .int .i64 0, .int .i64 0, .int .i64 0, .int .i64 0, .int .i64 0, .int .i64 0, .int .i64 0, .bool false] 44
  have t0 := Ext.alloc (Below.refl w.heap.size w) (.cells #[.int .u32 0, .int .u32 0, .int .i64 0, .int .i64 0, .int .i64 0, .int .i64 0, .int .i64 0, .int .i64 0, .int .i64 0, .bool false] 44)
  refine (zfields _).mono ?_
  rintro e w2 ⟨g, q2, rfl, hc2, b2⟩
  have A2 := A0.next b2
  have t2 := Ext.trans t0 b2
  have HC2 := Lib.hid hc2
  have hw2 : w.heap.size < w2.heap.size := A2.lt
  clear A0 t0 b2 hc2
  generalize hzr : zRows = rows at *
  have HZR := Lib.hid hzr
  clear hzr
  go_wp2
  go_loopw [4, 15] (fun v i wr => ∃ k : Nat, k ≤ 11 ∧ i = .int .i64 k ∧ wr.ownsRow w2.heap.size 3 1 v k (valsL bs (rows.take k)) ∧ Below w.heap.size w wr ∧ Below w2.heap.size w2 wr ∧ BoxOf wr w.heap.size #[.int .u32 0, .int .u32 0, .int .i64 0, .int .i64 0, .int .i64 0, .int .i64 0, .int .i64 0, .int .i64 0, .int .i64 0, .bool false] 44) (fun _ i _ => 11 - (intOf i).toNat)
  case atStart => exact ⟨0, by omega, rfl, ⟨rfl, .inl ⟨rfl, rfl⟩⟩, t2, Below.refl _ _, A2⟩
  case round =>
    obtain ⟨k, hk, rfl, hown, bw, bw2, Ak⟩ := hrel
    by_cases hlt : k < 11
    · have hkl : k < rows.length := by rw [hln]; exact hlt
      have hsucc := valsL_succ bs rows k hkl
      obtain ⟨q0, q1, q3⟩ := HC2.out k hkl
      have q0' := (bw2.cell (p := _) (block_lt_of_cell q0)).trans q0
      have q1' := (bw2.cell (p := _) (block_lt_of_cell q1)).trans q1
      have q3' := (bw2.cell (p := _) (block_lt_of_cell q3)).trans q3
      obtain ⟨f1, f2, f3⟩ := hft.out _ (List.getElem_mem hkl)
      clear q0 q1 q3
      generalize rows[k] = ro at *
      generalize ro.1 = x at *
      generalize ro.2.1 = p at *
      generalize ro.2.2 = z at *
      have HS := Lib.hid hsucc
      have F3 := Lib.hid f3
      have HA := Lib.hid Ak
      have HBB := Lib.hid ((HB.out.below bw).alloc (.cells #[.int .i64 (x : Int), .int .i64 (p : Int), .int .i64 (z : Int)] 66))
      have T1 := Ext.alloc bw (.cells #[.int .i64 (x : Int), .int .i64 (p : Int), .int .i64 (z : Int)] 66)
      have T2 := Ext.alloc bw2 (.cells #[.int .i64 (x : Int), .int .i64 (p : Int), .int .i64 (z : Int)] 66)
      have OW := Lib.hid (hown.alloc (.cells #[.int .i64 (x : Int), .int .i64 (p : Int), .int .i64 (z : Int)] 66))
      have AW := Lib.hid (Ak.alloc (.cells #[.int .i64 (x : Int), .int .i64 (p : Int), .int .i64 (z : Int)] 66))
      clear hsucc f3 Ak hown HA
      go_wp2_with fail
      refine (HT.out p z _ ⟨f1, f2⟩ (by have := F3.out; omega) HBB.out).mono ?_
      rintro e w3 ⟨rfl, b3⟩
      generalize takeN (wholeL bs) p z = y at *
      have O3 := Lib.hid (own_next (own_next OW.out b3) (Ext.alloc (Below.refl _ _) (.cells #[.int .i64 (y : Int)] 3)))
      have A3 := Lib.hid ((AW.out.next b3).alloc (.cells #[.int .i64 (y : Int)] 3))
      have T3 := Ext.alloc (Ext.trans T1 b3) (.cells #[.int .i64 (y : Int)] 3)
      have T4 := Ext.alloc (Ext.trans T2 b3) (.cells #[.int .i64 (y : Int)] 3)
      have R3 := Lib.hid (rd_one w3 (.int .i64 (y : Int)) 3)
      have L3 : Hid (w2.heap.size ≤ w3.heap.size) := Lib.hid (Ext.trans T2 b3).size
      clear OW AW T1 T2 b3
      go_wp2_with (at_builtin; refine wpList_append_rd _ rfl (.tmp 32) (.tmp 34) _ rfl w2.heap.size 3 i0 (.int .i64 0) 1 8 Try.underlying62 hi0 hz0 hz1 hz2 rfl (by decide) _ k (valsL bs (rows.take k)) rfl O3.out (some ⟨w3.heap.size, 0, none⟩) 1 1 [.int .i64 (y : Int)] rfl rfl R3.out (by simp [Value.oneCell']) (by unfold maxLen; omega) (by omega) (by have := L3.out; simp; omega) ?_; intro v' w4 hown4 hgrow4 _)
      go_roundw
      case rel =>
        have l3 := L3.out
        refine ⟨k + 1, by omega, by go_num, by rw [HS.out]; exact hown4, ?_, ?_, A3.out.grown hgrow4 (own_ne O3.out (by omega))⟩
        · exact Below.grown T3 hgrow4 (by simp; omega) (fun k hk => by have := own_block O3.out hk; omega)
        · exact Below.grown T4 hgrow4 (by simp; omega) (fun k hk => own_block O3.out hk)
      case measure => simp [intOf]; omega
    · have hk' : k = 11 := by omega
      have htk : rows.take k = rows := by rw [hk', ← hln]; exact List.take_length
      rw [htk, HV.out] at hown
      clear htk
      rcases hown.2 with ⟨_, h0⟩ | ⟨gn, cap, cur, rfl, hgn, hheap, _⟩
      · omega
      have hgl : gn < wr.heap.size := lheap_lt hheap
      have c1 := hown.cellAt 1 (by omega)
      have c2 := hown.cellAt 2 (by omega)
      have c3 := hown.cellAt 3 (by omega)
      have c4 := hown.cellAt 4 (by omega)
      have c5 := hown.cellAt 5 (by omega)
      have c6 := hown.cellAt 6 (by omega)
      have c7 := hown.cellAt 7 (by omega)
      have c8 := hown.cellAt 8 (by omega)
      have c9 := hown.cellAt 9 (by omega)
      have c10 := hown.cellAt 10 (by omega)
      have HBB := HB.out.below bw
      rw [hk'] at *
      clear hown hheap HC2 hk' bw2
      go_upto_region 10 with fail
      have W1 := W1.out
      have W2 := W2.out
      have hop := HOP.out
      refine wp_region_held_drew (S := fun w' => Below w.heap.size w w' ∧ BoxOf w' w.heap.size #[.int .u32 0, .int .u32 0, .int .i64 0, .int .i64 0, .int .i64 0, .int .i64 0, .int .i64 0, .int .i64 0, .int .i64 0, .bool false] 44 ∧ w'.cell? ⟨gn, 1, none⟩ = some (.int .i64 (id : Int)) ∧ w'.cell? ⟨gn, 2, none⟩ = some (.int .i64 (ev : Int)) ∧ w'.cell? ⟨gn, 3, none⟩ = some (.int .i64 (m : Int)) ∧ w'.cell? ⟨gn, 4, none⟩ = some (.int .i64 (c : Int)) ∧ w'.cell? ⟨gn, 5, none⟩ = some (.int .i64 (r : Int)) ∧ w'.cell? ⟨gn, 6, none⟩ = some (.int .i64 (l : Int)) ∧ w'.cell? ⟨gn, 7, none⟩ = some (.int .i64 (me : Int)) ∧ w'.cell? ⟨gn, 8, none⟩ = some (.int .i64 (lo : Int)) ∧ w'.cell? ⟨gn, 9, none⟩ = some (.int .i64 (dn : Int)) ∧ w'.cell? ⟨gn, 10, none⟩ = some (.int .i64 (on : Int))) (by kernel_rfl) ⟨Ext.drew bw, Ak.drew, c1, c2, c3, c4, c5, c6, c7, c8, c9, c10⟩ (fun hS => ?_)
      generalize hv0 : wr.drew = v at hS ⊢
      have hgv : gn < v.heap.size := by rw [← hv0]; exact hgl
      have hbv : Bs v A n bs := by rw [← hv0]; exact HBB
      clear c1 c2 c3 c4 c5 c6 c7 c8 c9 c10 bw Ak HBB hv0 hgl
      refine wpAnyH_take (i := 0) (oi := _) (v := ?_) rfl (by kernel_rfl) (by kernel_rfl) (by kernel_rfl) (fun _ _ _ h => h) (Or.inl ⟨by rfl, ?_⟩) hS ?_
      rotate_left
      · (intro w hSw; (try dsimp only at hSw); go_simp; (try with_reducible rfl))
      rotate_left
      simp only [Act.put, List.getElem_toArray, List.getElem_cons_zero, List.getElem_cons_succ, List.setIfInBounds_toArray, List.set_cons_zero, List.set_cons_succ]
      refine wpAnyH_take (i := 1) (oi := _) (v := ?_) rfl (by kernel_rfl) (by kernel_rfl) (by kernel_rfl) (fun _ _ _ h => h) (Or.inl ⟨by rfl, ?_⟩) hS ?_
      rotate_left
      · (intro w hSw; (try dsimp only at hSw); go_simp; (try with_reducible rfl))
      rotate_left
      simp only [Act.put, List.getElem_toArray, List.getElem_cons_zero, List.getElem_cons_succ, List.setIfInBounds_toArray, List.set_cons_zero, List.set_cons_succ]
      refine wpAnyH_take (i := 2) (oi := _) (v := ?_) rfl (by kernel_rfl) (by kernel_rfl) (by kernel_rfl) (fun _ _ _ h => h) (Or.inl ⟨by rfl, ?_⟩) hS ?_
      rotate_left
      · (intro w hSw; (try dsimp only at hSw); go_simp; (try with_reducible rfl))
      rotate_left
      simp only [Act.put, List.getElem_toArray, List.getElem_cons_zero, List.getElem_cons_succ, List.setIfInBounds_toArray, List.set_cons_zero, List.set_cons_succ]
      refine wpAnyH_take (i := 3) (oi := _) (v := ?_) rfl (by kernel_rfl) (by kernel_rfl) (by kernel_rfl) (fun _ _ _ h => h) (Or.inl ⟨by rfl, ?_⟩) hS ?_
      rotate_left
      · (intro w hSw; (try dsimp only at hSw); go_simp; (try with_reducible rfl))
      rotate_left
      simp only [Act.put, List.getElem_toArray, List.getElem_cons_zero, List.getElem_cons_succ, List.setIfInBounds_toArray, List.set_cons_zero, List.set_cons_succ]
      refine wpAnyH_take (i := 4) (oi := _) (v := ?_) rfl (by kernel_rfl) (by kernel_rfl) (by kernel_rfl) (fun _ _ _ h => h) (Or.inl ⟨by rfl, ?_⟩) hS ?_
      rotate_left
      · (intro w hSw; (try dsimp only at hSw); go_simp; (try with_reducible rfl))
      rotate_left
      simp only [Act.put, List.getElem_toArray, List.getElem_cons_zero, List.getElem_cons_succ, List.setIfInBounds_toArray, List.set_cons_zero, List.set_cons_succ]
      refine wpAnyH_take (i := 5) (oi := _) (v := ?_) rfl (by kernel_rfl) (by kernel_rfl) (by kernel_rfl) (fun _ _ _ h => h) (Or.inl ⟨by rfl, ?_⟩) hS ?_
      rotate_left
      · (intro w hSw; (try dsimp only at hSw); go_simp; (try with_reducible rfl))
      rotate_left
      simp only [Act.put, List.getElem_toArray, List.getElem_cons_zero, List.getElem_cons_succ, List.setIfInBounds_toArray, List.set_cons_zero, List.set_cons_succ]
      refine wpAnyH_take (i := 6) (oi := _) (v := ?_) rfl (by kernel_rfl) (by kernel_rfl) (by kernel_rfl) (fun _ _ _ h => h) (Or.inl ⟨by rfl, ?_⟩) hS ?_
      rotate_left
      · (intro w hSw; (try dsimp only at hSw); go_simp; (try with_reducible rfl))
      rotate_left
      simp only [Act.put, List.getElem_toArray, List.getElem_cons_zero, List.getElem_cons_succ, List.setIfInBounds_toArray, List.set_cons_zero, List.set_cons_succ]
      refine wpAnyH_take (i := 7) (oi := _) (v := ?_) rfl (by kernel_rfl) (by kernel_rfl) (by kernel_rfl) (fun _ _ _ h => h) (Or.inl ⟨by rfl, ?_⟩) hS ?_
      rotate_left
      · (intro w hSw; (try dsimp only at hSw); go_simp; (try with_reducible rfl))
      rotate_left
      simp only [Act.put, List.getElem_toArray, List.getElem_cons_zero, List.getElem_cons_succ, List.setIfInBounds_toArray, List.set_cons_zero, List.set_cons_succ]
      refine wpAnyH_take (i := 8) (oi := _) (v := ?_) rfl (by kernel_rfl) (by kernel_rfl) (by kernel_rfl) (fun _ _ _ h => h) (Or.inl ⟨by rfl, ?_⟩) hS ?_
      rotate_left
      · (intro w hSw; (try dsimp only at hSw); go_simp; (try with_reducible rfl))
      rotate_left
      simp only [Act.put, List.getElem_toArray, List.getElem_cons_zero, List.getElem_cons_succ, List.setIfInBounds_toArray, List.set_cons_zero, List.set_cons_succ]
      refine wpAnyH_take (i := 9) (oi := _) (v := ?_) rfl (by kernel_rfl) (by kernel_rfl) (by kernel_rfl) (fun _ _ _ h => h) (Or.inl ⟨by rfl, ?_⟩) hS ?_
      rotate_left
      · (intro w hSw; (try dsimp only at hSw); go_simp; (try with_reducible rfl))
      rotate_left
      simp only [Act.put, List.getElem_toArray, List.getElem_cons_zero, List.getElem_cons_succ, List.setIfInBounds_toArray, List.set_cons_zero, List.set_cons_succ]
      refine wpAnyH_take (i := 10) (oi := _) (v := ?_) rfl (by kernel_rfl) (by kernel_rfl) (by kernel_rfl) (fun _ _ _ h => h) (Or.inl ⟨by rfl, ?_⟩) hS ?_
      rotate_left
      · (intro w hSw; (try dsimp only at hSw); go_simp; (try with_reducible rfl))
      rotate_left
      simp only [Act.put, List.getElem_toArray, List.getElem_cons_zero, List.getElem_cons_succ, List.setIfInBounds_toArray, List.set_cons_zero, List.set_cons_succ]
      refine wpAnyH_take (i := 11) (oi := _) (v := ?_) rfl (by kernel_rfl) (by kernel_rfl) (by kernel_rfl) (fun _ _ _ h => h) (Or.inl ⟨by rfl, ?_⟩) hS ?_
      rotate_left
      · (intro w hSw; (try dsimp only at hSw); go_simp; (try with_reducible rfl))
      rotate_left
      simp only [Act.put, List.getElem_toArray, List.getElem_cons_zero, List.getElem_cons_succ, List.setIfInBounds_toArray, List.set_cons_zero, List.set_cons_succ]
      refine wpAnyH_take (i := 12) (oi := _) (v := ?_) rfl (by kernel_rfl) (by kernel_rfl) (by kernel_rfl) (fun _ _ _ h => h) (Or.inl ⟨by rfl, ?_⟩) hS ?_
      rotate_left
      · (intro w hSw; (try dsimp only at hSw); go_simp; (try with_reducible rfl))
      rotate_left
      simp only [Act.put, List.getElem_toArray, List.getElem_cons_zero, List.getElem_cons_succ, List.setIfInBounds_toArray, List.set_cons_zero, List.set_cons_succ]
      refine wpAnyH_take (i := 13) (oi := _) (v := ?_) rfl (by kernel_rfl) (by kernel_rfl) (by kernel_rfl) (fun _ _ _ h => h) (Or.inl ⟨by rfl, ?_⟩) hS ?_
      rotate_left
      · (intro w hSw; (try dsimp only at hSw); go_simp; (try with_reducible rfl))
      rotate_left
      simp only [Act.put, List.getElem_toArray, List.getElem_cons_zero, List.getElem_cons_succ, List.setIfInBounds_toArray, List.set_cons_zero, List.set_cons_succ]
      refine wpAnyH_take (i := 14) (oi := _) (v := ?_) rfl (by kernel_rfl) (by kernel_rfl) (by kernel_rfl) (fun _ _ _ h => h) (Or.inl ⟨by rfl, ?_⟩) hS ?_
      rotate_left
      · (intro w hSw; (try dsimp only at hSw); go_simp; (try with_reducible rfl))
      rotate_left
      simp only [Act.put, List.getElem_toArray, List.getElem_cons_zero, List.getElem_cons_succ, List.setIfInBounds_toArray, List.set_cons_zero, List.set_cons_succ]
      refine wpAnyH_take (i := 15) (oi := _) (v := ?_) rfl (by kernel_rfl) (by kernel_rfl) (by kernel_rfl) (fun _ _ _ h => h) (Or.inl ⟨by rfl, ?_⟩) hS ?_
      rotate_left
      · (intro w hSw; (try dsimp only at hSw); go_simp; (try with_reducible rfl))
      rotate_left
      simp only [Act.put, List.getElem_toArray, List.getElem_cons_zero, List.getElem_cons_succ, List.setIfInBounds_toArray, List.set_cons_zero, List.set_cons_succ]
      refine wpAnyH_take (i := 16) (oi := _) (v := ?_) rfl (by kernel_rfl) (by kernel_rfl) (by kernel_rfl) (fun _ _ _ h => h) (Or.inl ⟨by rfl, ?_⟩) hS ?_
      rotate_left
      · (intro w hSw; (try dsimp only at hSw); go_simp; (try with_reducible rfl))
      rotate_left
      simp only [Act.put, List.getElem_toArray, List.getElem_cons_zero, List.getElem_cons_succ, List.setIfInBounds_toArray, List.set_cons_zero, List.set_cons_succ]
      refine wpAnyH_take (i := 17) (oi := _) (v := ?_) rfl (by kernel_rfl) (by kernel_rfl) (by kernel_rfl) (fun _ _ _ h => h) (Or.inl ⟨by rfl, ?_⟩) hS ?_
      rotate_left
      · (intro w hSw; (try dsimp only at hSw); go_simp; (try with_reducible rfl))
      rotate_left
      simp only [Act.put, List.getElem_toArray, List.getElem_cons_zero, List.getElem_cons_succ, List.setIfInBounds_toArray, List.set_cons_zero, List.set_cons_succ]
      refine wpAnyH_take (i := 18) (oi := _) (v := ?_) rfl (by kernel_rfl) (by kernel_rfl) (by kernel_rfl) (fun _ _ _ h => h) (Or.inl ⟨by rfl, ?_⟩) hS ?_
      rotate_left
      · (intro w hSw; (try dsimp only at hSw); go_simp; (try with_reducible rfl))
      rotate_left
      simp only [Act.put, List.getElem_toArray, List.getElem_cons_zero, List.getElem_cons_succ, List.setIfInBounds_toArray, List.set_cons_zero, List.set_cons_succ]
      refine wpAnyH_take (i := 19) (oi := _) (v := ?_) rfl (by kernel_rfl) (by kernel_rfl) (by kernel_rfl) (fun _ _ _ h => h) (Or.inl ⟨by rfl, ?_⟩) hS ?_
      rotate_left
      · (intro w hSw; (try dsimp only at hSw); go_simp; (try with_reducible rfl))
      rotate_left
      simp only [Act.put, List.getElem_toArray, List.getElem_cons_zero, List.getElem_cons_succ, List.setIfInBounds_toArray, List.set_cons_zero, List.set_cons_succ]
      refine wpAnyH_take (i := 20) (oi := _) (v := ?_) rfl (by kernel_rfl) (by kernel_rfl) (by kernel_rfl) (fun _ _ _ h => h) (Or.inl ⟨by rfl, ?_⟩) hS ?_
      rotate_left
      · (intro w hSw; (try dsimp only at hSw); go_simp; (try with_reducible rfl))
      rotate_left
      simp only [Act.put, List.getElem_toArray, List.getElem_cons_zero, List.getElem_cons_succ, List.setIfInBounds_toArray, List.set_cons_zero, List.set_cons_succ]
      refine wpAnyH_take (i := 21) (oi := _) (v := ?_) rfl (by kernel_rfl) (by kernel_rfl) (by kernel_rfl) (fun _ _ _ h => h) (Or.inl ⟨by rfl, ?_⟩) hS ?_
      rotate_left
      · (intro w hSw; (try dsimp only at hSw); go_simp; (try with_reducible rfl))
      rotate_left
      simp only [Act.put, List.getElem_toArray, List.getElem_cons_zero, List.getElem_cons_succ, List.setIfInBounds_toArray, List.set_cons_zero, List.set_cons_succ]
      refine wpAnyH_take (i := 22) (oi := _) (v := ?_) rfl (by kernel_rfl) (by kernel_rfl) (by kernel_rfl) (fun _ _ _ h => h) (Or.inl ⟨by rfl, ?_⟩) hS ?_
      rotate_left
      · (intro w hSw; (try dsimp only at hSw); go_simp; (try with_reducible rfl))
      rotate_left
      simp only [Act.put, List.getElem_toArray, List.getElem_cons_zero, List.getElem_cons_succ, List.setIfInBounds_toArray, List.set_cons_zero, List.set_cons_succ]
      refine wpAnyH_take (i := 23) (oi := _) (v := ?_) rfl (by kernel_rfl) (by kernel_rfl) (by kernel_rfl) (fun _ _ _ h => h) (Or.inl ⟨by rfl, ?_⟩) hS ?_
      rotate_left
      · (intro w hSw; (try dsimp only at hSw); go_simp; (try with_reducible rfl))
      rotate_left
      simp only [Act.put, List.getElem_toArray, List.getElem_cons_zero, List.getElem_cons_succ, List.setIfInBounds_toArray, List.set_cons_zero, List.set_cons_succ]
      refine wpAnyH_take (i := 24) (oi := _) (v := ?_) rfl (by kernel_rfl) (by kernel_rfl) (by kernel_rfl) (fun _ _ _ h => h) (Or.inl ⟨by rfl, ?_⟩) hS ?_
      rotate_left
      · (intro w hSw; (try dsimp only at hSw); go_simp; (try with_reducible rfl))
      rotate_left
      simp only [Act.put, List.getElem_toArray, List.getElem_cons_zero, List.getElem_cons_succ, List.setIfInBounds_toArray, List.set_cons_zero, List.set_cons_succ]
      refine wpAnyH_take (i := 25) (oi := _) (v := ?_) rfl (by kernel_rfl) (by kernel_rfl) (by kernel_rfl) (fun _ _ _ h => h) (Or.inl ⟨by rfl, ?_⟩) hS ?_
      rotate_left
      · (intro w hSw; (try dsimp only at hSw); go_simp; (try with_reducible rfl))
      rotate_left
      simp only [Act.put, List.getElem_toArray, List.getElem_cons_zero, List.getElem_cons_succ, List.setIfInBounds_toArray, List.set_cons_zero, List.set_cons_succ]
      refine wpAnyH_take (i := 26) (oi := _) (v := ?_) rfl (by kernel_rfl) (by kernel_rfl) (by kernel_rfl) (fun _ _ _ h => h) (Or.inl ⟨by rfl, ?_⟩) hS ?_
      rotate_left
      · (intro w hSw; (try dsimp only at hSw); go_simp; (try with_reducible rfl))
      rotate_left
      simp only [Act.put, List.getElem_toArray, List.getElem_cons_zero, List.getElem_cons_succ, List.setIfInBounds_toArray, List.set_cons_zero, List.set_cons_succ]
      refine wpAnyH_take (i := 27) (oi := _) (v := ?_) rfl (by kernel_rfl) (by kernel_rfl) (by kernel_rfl) (fun _ _ _ h => h) (Or.inl ⟨by rfl, ?_⟩) hS ?_
      rotate_left
      · (intro w hSw; (try dsimp only at hSw); go_simp; (try with_reducible rfl))
      rotate_left
      simp only [Act.put, List.getElem_toArray, List.getElem_cons_zero, List.getElem_cons_succ, List.setIfInBounds_toArray, List.set_cons_zero, List.set_cons_succ]
      refine wpAnyH_take (i := 28) (oi := _) (v := ?_) rfl (by kernel_rfl) (by kernel_rfl) (by kernel_rfl) (fun _ _ _ h => h) (Or.inl ⟨by rfl, ?_⟩) hS ?_
      rotate_left
      · (intro w hSw; (try dsimp only at hSw); go_simp; (try with_reducible rfl))
      rotate_left
      simp only [Act.put, List.getElem_toArray, List.getElem_cons_zero, List.getElem_cons_succ, List.setIfInBounds_toArray, List.set_cons_zero, List.set_cons_succ]
      refine wpAnyH_take (i := 29) (oi := _) (v := ?_) rfl (by kernel_rfl) (by kernel_rfl) (by kernel_rfl) (fun _ _ _ h => h) (Or.inl ⟨by rfl, ?_⟩) hS ?_
      rotate_left
      · (intro w hSw; (try dsimp only at hSw); go_simp; (try with_reducible rfl))
      rotate_left
      simp only [Act.put, List.getElem_toArray, List.getElem_cons_zero, List.getElem_cons_succ, List.setIfInBounds_toArray, List.set_cons_zero, List.set_cons_succ]
      refine wpAnyH_take (i := 30) (oi := _) (v := ?_) rfl (by kernel_rfl) (by kernel_rfl) (by kernel_rfl) (fun _ _ _ h => h) (Or.inl ⟨by rfl, ?_⟩) hS ?_
      rotate_left
      · (intro w hSw; (try dsimp only at hSw); go_simp; (try with_reducible rfl))
      rotate_left
      simp only [Act.put, List.getElem_toArray, List.getElem_cons_zero, List.getElem_cons_succ, List.setIfInBounds_toArray, List.set_cons_zero, List.set_cons_succ]
      refine wpAnyH_take (i := 31) (oi := _) (v := ?_) rfl (by kernel_rfl) (by kernel_rfl) (by kernel_rfl) (fun _ _ _ h => h) (Or.inl ⟨by rfl, ?_⟩) hS ?_
      rotate_left
      · (intro w hSw; (try dsimp only at hSw); go_simp; (try with_reducible rfl))
      rotate_left
      simp only [Act.put, List.getElem_toArray, List.getElem_cons_zero, List.getElem_cons_succ, List.setIfInBounds_toArray, List.set_cons_zero, List.set_cons_succ]
      refine wpAnyH_take (i := 32) (oi := _) (v := ?_) rfl (by kernel_rfl) (by kernel_rfl) (by kernel_rfl) (fun _ _ _ h => h) (Or.inl ⟨by rfl, ?_⟩) hS ?_
      rotate_left
      · (intro w hSw; (try dsimp only at hSw); go_simp; (try with_reducible rfl))
      rotate_left
      simp only [Act.put, List.getElem_toArray, List.getElem_cons_zero, List.getElem_cons_succ, List.setIfInBounds_toArray, List.set_cons_zero, List.set_cons_succ]
      refine wpAnyH_take (i := 33) (oi := _) (v := ?_) rfl (by kernel_rfl) (by kernel_rfl) (by kernel_rfl) (fun _ _ _ h => h) (Or.inl ⟨by rfl, ?_⟩) hS ?_
      rotate_left
      · (intro w hSw; (try dsimp only at hSw); go_simp; (try with_reducible rfl))
      rotate_left
      simp only [Act.put, List.getElem_toArray, List.getElem_cons_zero, List.getElem_cons_succ, List.setIfInBounds_toArray, List.set_cons_zero, List.set_cons_succ]
      clear W1 W2 hop
      refine wpAnyH_ready (rs := [34]) (by kernel_rfl) (by simp) ?_
      refine AllReadyH.cons rfl (fun K hK => ?_) AllReadyH.nil
      rw [if_pos (by rfl)]
      go_simp
      obtain ⟨gx, hgx⟩ : ∃ gx : Nat, gx = v.heap.size := ⟨_, rfl⟩
      have BX := BoxOf.new' v gx #[.int .u32 0, .int .u32 0, .int .i64 0, .int .i64 0, .int .i64 0, .int .i64 0, .int .i64 0, .int .i64 0, .int .i64 0, .bool false] 44 hgx
      have hgw : w.heap.size < gx := by rw [hgx]; exact hS.2.1.lt
      have hgg : gn < gx := by rw [hgx]; exact hgv
      have e10 := fun o => (Ext.alloc (Below.refl v.heap.size v) (.cells #[.int .u32 0, .int .u32 0, .int .i64 0, .int .i64 0, .int .i64 0, .int .i64 0, .int .i64 0, .int .i64 0, .int .i64 0, .bool false] 44)).cell (p := ⟨gn, o, none⟩) hgv
      have hb2 := hbv.alloc (.cells #[.int .u32 0, .int .u32 0, .int .i64 0, .int .i64 0, .int .i64 0, .int .i64 0, .int .i64 0, .int .i64 0, .int .i64 0, .bool false] 44)
      refine hK.out _ _ ⟨Ext.alloc hS.1 _, hS.2.1.alloc _, ⟨(e10 1).trans hS.2.2.1, (e10 2).trans hS.2.2.2.1, (e10 3).trans hS.2.2.2.2.1, (e10 4).trans hS.2.2.2.2.2.1, (e10 5).trans hS.2.2.2.2.2.2.1, (e10 6).trans hS.2.2.2.2.2.2.2.1, (e10 7).trans hS.2.2.2.2.2.2.2.2.1, (e10 8).trans hS.2.2.2.2.2.2.2.2.2.1, (e10 9).trans hS.2.2.2.2.2.2.2.2.2.2.1, (e10 10).trans hS.2.2.2.2.2.2.2.2.2.2.2⟩⟩ (fun hS' => ?_)
      rw [← hgx]
      clear hgx e10 hbv hgv hK K hS
      have hS := hS'
      clear hS'
      generalize v.alloc (.cells #[.int .u32 0, .int .u32 0, .int .i64 0, .int .i64 0, .int .i64 0, .int .i64 0, .int .i64 0, .int .i64 0, .int .i64 0, .bool false] 44) = v2 at BX hS hb2 ⊢
      try simp only [Act.put, List.getElem_toArray, List.getElem_cons_zero, List.getElem_cons_succ, List.setIfInBounds_toArray, List.set_cons_zero, List.set_cons_succ]
      refine wpAnyH_ready (rs := [35]) (by kernel_rfl) (by simp) ?_
      refine AllReadyH.cons rfl (fun K hK => ?_) AllReadyH.nil
      rw [if_pos (by rfl)]
      refine wp_store_row 44 (.tmp 9) (.tmp 70) rfl gx #[.int .u32 (id : Int), .int .u32 (ev : Int), .int .i64 (m : Int), .int .i64 (c : Int), .int .i64 (r : Int), .int .i64 (l : Int), .int .i64 (me : Int), .int .i64 (lo : Int), .int .i64 (dn : Int), .bool op] rfl rfl 44 #[.int .u32 0, .int .u32 0, .int .i64 0, .int .i64 0, .int .i64 0, .int .i64 0, .int .i64 0, .int .i64 0, .int .i64 0, .bool false] BX (by kernel_rfl) rfl (by kernel_rfl) ?_
      have BY := BX.set #[.int .u32 (id : Int), .int .u32 (ev : Int), .int .i64 (m : Int), .int .i64 (c : Int), .int .i64 (r : Int), .int .i64 (l : Int), .int .i64 (me : Int), .int .i64 (lo : Int), .int .i64 (dn : Int), .bool op]
      have t5 := Ext.setRow hS.1 (show w.heap.size ≤ gx by omega) #[.int .u32 (id : Int), .int .u32 (ev : Int), .int .i64 (m : Int), .int .i64 (c : Int), .int .i64 (r : Int), .int .i64 (l : Int), .int .i64 (me : Int), .int .i64 (lo : Int), .int .i64 (dn : Int), .bool op]
      have e10 := fun o => cell_other v2 gx #[.int .u32 (id : Int), .int .u32 (ev : Int), .int .i64 (m : Int), .int .i64 (c : Int), .int .i64 (r : Int), .int .i64 (l : Int), .int .i64 (me : Int), .int .i64 (lo : Int), .int .i64 (dn : Int), .bool op] (p := ⟨gn, o, none⟩) (show gn ≠ gx by omega)
      refine hK.out _ _ ⟨t5, hS.2.1.other (by omega) _, ⟨(e10 1).trans hS.2.2.1, (e10 2).trans hS.2.2.2.1, (e10 3).trans hS.2.2.2.2.1, (e10 4).trans hS.2.2.2.2.2.1, (e10 5).trans hS.2.2.2.2.2.2.1, (e10 6).trans hS.2.2.2.2.2.2.2.1, (e10 7).trans hS.2.2.2.2.2.2.2.2.1, (e10 8).trans hS.2.2.2.2.2.2.2.2.2.1, (e10 9).trans hS.2.2.2.2.2.2.2.2.2.2.1, (e10 10).trans hS.2.2.2.2.2.2.2.2.2.2.2⟩⟩ (fun hS' => ?_)
      clear hK K e10
      have B5 := hS'.2.1
      clear hS' hS hb2 BX
      try simp only [Act.put, List.getElem_toArray, List.getElem_cons_zero, List.getElem_cons_succ, List.setIfInBounds_toArray, List.set_cons_zero, List.set_cons_succ]
      refine wpAnyH_done (by kernel_rfl) ?_ _
      generalize v2.setRow gx #[.int .u32 (id : Int), .int .u32 (ev : Int), .int .i64 (m : Int), .int .i64 (c : Int), .int .i64 (r : Int), .int .i64 (l : Int), .int .i64 (me : Int), .int .i64 (lo : Int), .int .i64 (dn : Int), .bool op] = v3 at BY B5 t5 ⊢
      have x5 := BY.cell
      have f5 := BY.free
      go_upto_if 73 with fail
      go_cut [9] (fun s9 wx => s9 = .pointer (some ⟨gx, 0, none⟩) ∧ BoxOf wx gx #[.int .u32 (id : Int), .int .u32 (ev : Int), .int .i64 (m : Int), .int .i64 (c : Int), .int .i64 (r : Int), .int .i64 (l : Int), .int .i64 (me : Int), .int .i64 (lostI lo), .int .i64 (dn : Int), .bool op] 44 ∧ BoxOf wx w.heap.size #[.int .u32 0, .int .u32 0, .int .i64 0, .int .i64 0, .int .i64 0, .int .i64 0, .int .i64 0, .int .i64 0, .int .i64 0, .bool false] 44 ∧ Below w.heap.size w wx)
      case first =>
        by_cases h255 : lo = 255
        · have e1 : ((lo : Int) == 255) = true := by rw [beq_iff_eq]; omega
          have hlo : lostI lo = -1 := if_pos h255
          have HLO := Lib.hid hlo
          clear h255 hlo
          go_wp2_with fail
          go_meet
          refine ⟨rfl, ?_, B5.setElse (by omega) _ _, Below.setCell (p := ⟨gx, 7, none⟩) t5 (by show w.heap.size ≤ gx; omega) _⟩
          rw [HLO.out]
          exact BY.setAt 7 _
        · have e1 : ((lo : Int) == 255) = false := by rw [beq_eq_false_iff_ne]; omega
          have hlo : lostI lo = (lo : Int) := if_neg h255
          have HLO := Lib.hid hlo
          clear h255 hlo
          go_wp2_with fail
          go_meet
          refine ⟨rfl, ?_, B5, t5⟩
          rw [HLO.out]
          exact BY
      case rest =>
        obtain ⟨rfl, CY, C5, t6⟩ := hcut
        have x6 := CY.cell
        clear x5 f5 BY B5 t5
        go_wp2_with fail
        refine (HW.out _).mono ?_
        rintro e w7 ⟨P, k2, c2, rfl, hp, b7⟩
        have B := Lib.hid (C5.next b7)
        have x7 := (CY.next b7).cell
        have t7 := Ext.trans t6 b7
        have hb7 := HB.out.below t7
        clear CY C5 t6 x6 b7
        rcases HR.out with ⟨hE, rfl, rfl⟩ | ⟨rfl, hne, rfl, rfl⟩ | ⟨rfl, rfl, rfl, rfl⟩
        · clear hp hb7
          go_wp2_with (refine wpList_store_rowTo rfl 44 (.tmp 2) (.tmp 88) rfl rfl w.heap.size #[.int .u32 0, .int .u32 0, .int .i64 0, .int .i64 0, .int .i64 0, .int .i64 0, .int .i64 0, .int .i64 0, .int .i64 0, .bool false] rfl rfl 44 #[.int .u32 0, .int .u32 0, .int .i64 0, .int .i64 0, .int .i64 0, .int .i64 0, .int .i64 0, .int .i64 0, .int .i64 0, .bool false] B.out (by kernel_rfl) rfl (by kernel_rfl) ?_)
          exact bodyPost_ret (v := .tuple #[.agg #[.int .u32 0, .int .u32 0, .int .i64 0, .int .i64 0, .int .i64 0, .int .i64 0, .int .i64 0, .int .i64 0, .int .i64 0, .bool false], .int .i64 90]) (Eq.trans (results_row2 (P := Try.prog) (fn := Try.f17) (p := 2) (u := 3) (ty := 44) rfl _ _ w.heap.size 44 #[.int .u32 0, .int .u32 0, .int .i64 0, .int .i64 0, .int .i64 0, .int .i64 0, .int .i64 0, .int .i64 0, .int .i64 0, .bool false] (0, 0) _ rfl (B.out.set _) Try.underlying44 rfl (by kernel_rfl)) rfl) rfl ⟨rfl, Ext.setRow t7 (Nat.le_refl _) _⟩
        · have hs : (ws == bs) = false := by simpa using hne
          go_wp2_with fail
          refine (eqb_any P A k2 n c2 q ws bs _ hp hb7).mono ?_
          rintro e w8 ⟨rfl, rfl⟩
          clear hp hb7
          go_wp2_with (refine wpList_store_rowTo rfl 44 (.tmp 2) (.tmp 88) rfl rfl w.heap.size #[.int .u32 0, .int .u32 0, .int .i64 0, .int .i64 0, .int .i64 0, .int .i64 0, .int .i64 0, .int .i64 0, .int .i64 0, .bool false] rfl rfl 44 #[.int .u32 0, .int .u32 0, .int .i64 0, .int .i64 0, .int .i64 0, .int .i64 0, .int .i64 0, .int .i64 0, .int .i64 0, .bool false] B.out (by kernel_rfl) rfl (by kernel_rfl) ?_)
          exact bodyPost_ret (v := .tuple #[.agg #[.int .u32 0, .int .u32 0, .int .i64 0, .int .i64 0, .int .i64 0, .int .i64 0, .int .i64 0, .int .i64 0, .int .i64 0, .bool false], .int .i64 90]) (Eq.trans (results_row2 (P := Try.prog) (fn := Try.f17) (p := 2) (u := 3) (ty := 44) rfl _ _ w.heap.size 44 #[.int .u32 0, .int .u32 0, .int .i64 0, .int .i64 0, .int .i64 0, .int .i64 0, .int .i64 0, .int .i64 0, .int .i64 0, .bool false] (0, 0) _ rfl (B.out.set _) Try.underlying44 rfl (by kernel_rfl)) rfl) rfl ⟨rfl, Ext.setRow t7 (Nat.le_refl _) _⟩
        · have hs : (ws == ws) = true := by simp
          go_wp2_with fail
          refine (eqb_any P A k2 n c2 q ws ws _ hp hb7).mono ?_
          rintro e w8 ⟨rfl, rfl⟩
          clear hp hb7
          go_wp2_with (refine wpList_store_rowTo rfl 44 (.tmp 2) (.tmp 89) rfl rfl w.heap.size #[.int .u32 (id : Int), .int .u32 (ev : Int), .int .i64 (m : Int), .int .i64 (c : Int), .int .i64 (r : Int), .int .i64 (l : Int), .int .i64 (me : Int), .int .i64 (lostI lo), .int .i64 (dn : Int), .bool op] rfl rfl 44 #[.int .u32 0, .int .u32 0, .int .i64 0, .int .i64 0, .int .i64 0, .int .i64 0, .int .i64 0, .int .i64 0, .int .i64 0, .bool false] B.out (by kernel_rfl) rfl (by kernel_rfl) ?_)
          exact bodyPost_ret (v := .tuple #[.agg #[.int .u32 (id : Int), .int .u32 (ev : Int), .int .i64 (m : Int), .int .i64 (c : Int), .int .i64 (r : Int), .int .i64 (l : Int), .int .i64 (me : Int), .int .i64 (lostI lo), .int .i64 (dn : Int), .bool op], .int .i64 0]) (Eq.trans (results_row2 (P := Try.prog) (fn := Try.f17) (p := 2) (u := 3) (ty := 44) rfl _ _ w.heap.size 44 #[.int .u32 (id : Int), .int .u32 (ev : Int), .int .i64 (m : Int), .int .i64 (c : Int), .int .i64 (r : Int), .int .i64 (l : Int), .int .i64 (me : Int), .int .i64 (lostI lo), .int .i64 (dn : Int), .bool op] (0, 0) _ rfl (B.out.set _) Try.underlying44 rfl (by kernel_rfl)) rfl) rfl ⟨rfl, Ext.setRow t7 (Nat.le_refl _) _⟩
end Go.Proofs.Ytgmlhfencidahaa
