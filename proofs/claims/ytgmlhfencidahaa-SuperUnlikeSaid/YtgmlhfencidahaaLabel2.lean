/- Layer 9 (label): its fields. -/
import Derived.Test.YtgmlhfencidahaaRef09
import Derived.Test.YtgmlhfencidahaaRows
import Derived.Deep.DeepCutAuto
namespace Go.Proofs.Ytgmlhfencidahaa
open Go Go.RowKit
set_option linter.unusedSimpArgs false
set_option linter.unusedVariables false

def lostI (lo : Nat) : Int := if lo = 255 then -1 else (lo : Int)
def opN (op : Bool) : Nat := if op then 1 else 0
/-- a label's numbers, where they stand, and their sizes -/
def labRows (id ev m c r l me lo dn : Nat) (op : Bool) : List (Nat × Nat × Nat) :=
  [(76, 0, 1), (id, 1, 4), (ev, 5, 4), (m, 9, 1), (c, 10, 1), (r, 11, 1), (l, 12, 1), (me, 13, 1), (lo, 14, 1), (dn, 15, 1), (opN op, 16, 1)]
def rowF (r : Nat × Nat × Nat) : List Value := [.int .i64 (r.1 : Int), .int .i64 (r.2.1 : Int), .int .i64 (r.2.2 : Int)]
def rowsV (l : List (Nat × Nat × Nat)) : Array Value := (l.flatMap rowF).toArray

theorem box1_set {w : World} {g : Nat} {a : Value} {t : TypeId} (h : BoxOf w g #[a] t) (v : Value) : BoxOf (w.setCell ⟨g, 0, none⟩ v) g #[v] t := by
  unfold BoxOf at *
  simp [World.setCell, Array.getElem?_modify, h]
set_option maxRecDepth 100000 in
theorem field1_any (B g : Nat) (n a k : Int) (hg : B ≤ g) (ha : 0 ≤ a ∧ a ≤ 1000) (hk : 0 ≤ k ∧ k ≤ 1000) (w : World) (hB : BoxOf w g #[.int .i64 a] 3) :
    Calls Try.prog 38 #[.int .i64 n, .int .i64 k, .pointer (some ⟨g, 0, none⟩)] w fun e w' => e = .returned (.agg #[.int .i64 n, .int .i64 a, .int .i64 k]) ∧ BoxOf w' g #[.int .i64 (a + k)] 3 ∧ Below B w w' := by
  have hlt := hB.lt
  have x0 := hB.cell
  have f0 := hB.free
  go_enter Try.func38, Try.ntmps38
  go_wp2_with fail
  refine bodyPost_ret (v := .agg #[.int .i64 n, .int .i64 a, .int .i64 k]) (results_cell_row rfl _ _ w.heap.size 66 #[.int .i64 n, .int .i64 a, .int .i64 k] (0, 0) _ rfl (by
    have h := (BoxOf.new' (w.setCell ⟨g, 0, none⟩ (.int .i64 (a + k))) w.heap.size #[.int .i64 n, .int .i64 a, .int .i64 k] 66 (by simp [World.setCell])).alloc (.cells #[.int .i64 n, .int .i64 a, .int .i64 k] 66)
    exact h) Try.underlying66 rfl (by kernel_rfl)) rfl ⟨rfl, ?_, ?_⟩
  · exact ((box1_set hB _).alloc _).alloc _
  · exact Below.alloc (Below.alloc (Below.setCell (p := ⟨g, 0, none⟩) (Below.refl _ _) hg _) (by simp [World.setCell]; omega) _) (by simp [World.setCell]; omega) _

theorem fields_cells (id ev m c r l me lo dn : Nat) (op : Bool) (v : World) (g : Nat) (hg : g = v.heap.size) :
    ∀ i (hi : i < (labRows id ev m c r l me lo dn op).length), (v.alloc (.cells #[.int .i64 76, .int .i64 0, .int .i64 1, .int .i64 (id : Int), .int .i64 1, .int .i64 4, .int .i64 (ev : Int), .int .i64 5, .int .i64 4, .int .i64 (m : Int), .int .i64 9, .int .i64 1, .int .i64 (c : Int), .int .i64 10, .int .i64 1, .int .i64 (r : Int), .int .i64 11, .int .i64 1, .int .i64 (l : Int), .int .i64 12, .int .i64 1, .int .i64 (me : Int), .int .i64 13, .int .i64 1, .int .i64 (lo : Int), .int .i64 14, .int .i64 1, .int .i64 (dn : Int), .int .i64 15, .int .i64 1, .int .i64 (opN op : Int), .int .i64 16, .int .i64 1] 66)).cell? ⟨g, i * 3, none⟩ = some (.int .i64 ((labRows id ev m c r l me lo dn op)[i].1 : Int)) ∧ (v.alloc (.cells #[.int .i64 76, .int .i64 0, .int .i64 1, .int .i64 (id : Int), .int .i64 1, .int .i64 4, .int .i64 (ev : Int), .int .i64 5, .int .i64 4, .int .i64 (m : Int), .int .i64 9, .int .i64 1, .int .i64 (c : Int), .int .i64 10, .int .i64 1, .int .i64 (r : Int), .int .i64 11, .int .i64 1, .int .i64 (l : Int), .int .i64 12, .int .i64 1, .int .i64 (me : Int), .int .i64 13, .int .i64 1, .int .i64 (lo : Int), .int .i64 14, .int .i64 1, .int .i64 (dn : Int), .int .i64 15, .int .i64 1, .int .i64 (opN op : Int), .int .i64 16, .int .i64 1] 66)).cell? ⟨g, i * 3 + 1, none⟩ = some (.int .i64 ((labRows id ev m c r l me lo dn op)[i].2.1 : Int)) ∧ (v.alloc (.cells #[.int .i64 76, .int .i64 0, .int .i64 1, .int .i64 (id : Int), .int .i64 1, .int .i64 4, .int .i64 (ev : Int), .int .i64 5, .int .i64 4, .int .i64 (m : Int), .int .i64 9, .int .i64 1, .int .i64 (c : Int), .int .i64 10, .int .i64 1, .int .i64 (r : Int), .int .i64 11, .int .i64 1, .int .i64 (l : Int), .int .i64 12, .int .i64 1, .int .i64 (me : Int), .int .i64 13, .int .i64 1, .int .i64 (lo : Int), .int .i64 14, .int .i64 1, .int .i64 (dn : Int), .int .i64 15, .int .i64 1, .int .i64 (opN op : Int), .int .i64 16, .int .i64 1] 66)).cell? ⟨g, i * 3 + 2, none⟩ = some (.int .i64 ((labRows id ev m c r l me lo dn op)[i].2.2 : Int)) := by
  intro i hi
  subst hg
  have h11 : i < 11 := hi
  rcases i with _ | _ | _ | _ | _ | _ | _ | _ | _ | _ | _ | i
  · refine ⟨?_, ?_, ?_⟩ <;> rw [World.cell?_alloc_mark] <;> rfl
  · refine ⟨?_, ?_, ?_⟩ <;> rw [World.cell?_alloc_mark] <;> rfl
  · refine ⟨?_, ?_, ?_⟩ <;> rw [World.cell?_alloc_mark] <;> rfl
  · refine ⟨?_, ?_, ?_⟩ <;> rw [World.cell?_alloc_mark] <;> rfl
  · refine ⟨?_, ?_, ?_⟩ <;> rw [World.cell?_alloc_mark] <;> rfl
  · refine ⟨?_, ?_, ?_⟩ <;> rw [World.cell?_alloc_mark] <;> rfl
  · refine ⟨?_, ?_, ?_⟩ <;> rw [World.cell?_alloc_mark] <;> rfl
  · refine ⟨?_, ?_, ?_⟩ <;> rw [World.cell?_alloc_mark] <;> rfl
  · refine ⟨?_, ?_, ?_⟩ <;> rw [World.cell?_alloc_mark] <;> rfl
  · refine ⟨?_, ?_, ?_⟩ <;> rw [World.cell?_alloc_mark] <;> rfl
  · refine ⟨?_, ?_, ?_⟩ <;> rw [World.cell?_alloc_mark] <;> rfl
  · omega

set_option maxRecDepth 100000 in
set_option maxHeartbeats 2000000 in
theorem fields_any (id ev m c r l me lo dn : Nat) (op : Bool) (hid : id < 4294967296) (hev : ev < 4294967296) (w : World) : Calls Try.prog 28 #[.agg #[.int .u32 (id : Int), .int .u32 (ev : Int), .int .i64 (m : Int), .int .i64 (c : Int), .int .i64 (r : Int), .int .i64 (l : Int), .int .i64 (me : Int), .int .i64 (lostI lo), .int .i64 (dn : Int), .bool op]] w fun e w' => ∃ g q, e = .returned (.slice (some ⟨g, 0, none⟩) 11 q) ∧
    (∀ i (hi : i < (labRows id ev m c r l me lo dn op).length), w'.cell? ⟨g, i * 3, none⟩ = some (.int .i64 ((labRows id ev m c r l me lo dn op)[i].1 : Int)) ∧ w'.cell? ⟨g, i * 3 + 1, none⟩ = some (.int .i64 ((labRows id ev m c r l me lo dn op)[i].2.1 : Int)) ∧ w'.cell? ⟨g, i * 3 + 2, none⟩ = some (.int .i64 ((labRows id ev m c r l me lo dn op)[i].2.2 : Int))) ∧ Below w.heap.size w w' := by
  have hmf : ∀ (fn : Fn) (first cap : Array Value) (w : World), (Instr.makeFunc fn first cap).run Try.prog w = .ok (.func fn first cap) w := fun _ _ _ _ => rfl
  have hlo : ((lostI lo == -1) = true ∧ (lo : Int) = 255) ∨ ((lostI lo == -1) = false ∧ lostI lo = (lo : Int)) := by
    unfold lostI
    split
    · exact .inl ⟨rfl, by omega⟩
    · exact .inr ⟨by rw [beq_eq_false_iff_ne]; omega, rfl⟩
  have HLO := Lib.hid hlo
  have q1 : IntKind.i64.wrap (id : Int) = id := IntWalk.i64_in _ (by omega)
  have q2 : IntKind.i64.wrap (ev : Int) = ev := IntWalk.i64_in _ (by omega)
  have Q1 := Lib.hid q1
  have Q2 := Lib.hid q2
  clear q1 q2 hid hev
  clear hlo
  go_enter Try.func28, Try.ntmps28
  generalize lostI lo = z at *
  have A0 := BoxOf.alloc (BoxOf.new w #[.int .u32 (id : Int), .int .u32 (ev : Int), .int .i64 (m : Int), .int .i64 (c : Int), .int .i64 (r : Int), .int .i64 (l : Int), .int .i64 (me : Int), .int .i64 z, .int .i64 (dn : Int), .bool op] 44) (.cells #[.int .i64 0] 3)
  have G0 := BoxOf.new' (w.alloc (.cells #[.int .u32 (id : Int), .int .u32 (ev : Int), .int .i64 (m : Int), .int .i64 (c : Int), .int .i64 (r : Int), .int .i64 (l : Int), .int .i64 (me : Int), .int .i64 z, .int .i64 (dn : Int), .bool op] 44)) (w.heap.size + 1) #[.int .i64 0] 3 (by simp)
  have t0 := Ext.alloc (Ext.alloc (Below.refl w.heap.size w) (.cells #[.int .u32 (id : Int), .int .u32 (ev : Int), .int .i64 (m : Int), .int .i64 (c : Int), .int .i64 (r : Int), .int .i64 (l : Int), .int .i64 (me : Int), .int .i64 z, .int .i64 (dn : Int), .bool op] 44)) (.cells #[.int .i64 0] 3)
  go_upto_if 11 with fail
  generalize (w.alloc (.cells #[.int .u32 (id : Int), .int .u32 (ev : Int), .int .i64 (m : Int), .int .i64 (c : Int), .int .i64 (r : Int), .int .i64 (l : Int), .int .i64 (me : Int), .int .i64 z, .int .i64 (dn : Int), .bool op] 44)).alloc (.cells #[.int .i64 0] 3) = W at *
  go_cut [5] (fun s5 wx => s5 = .int .i64 (lo : Int) ∧ wx = W)
  case first =>
    rcases HLO.out with ⟨h1, h2⟩ | ⟨h1, h2⟩
    all_goals
      have H2 := Lib.hid h2
      clear h2
      go_wp2_with fail
      go_meet
      exact ⟨by rw [H2.out], rfl⟩
  case rest =>
    obtain ⟨rfl, rfl⟩ := hcut
    have x0 := A0.cell
    go_upto_if 13 with fail
    go_cut [6] (fun s6 wx => s6 = .int .i64 (opN op : Int) ∧ wx = wc)
    case first =>
      cases op
      · go_wp2_with fail
        go_meet
        exact ⟨rfl, rfl⟩
      · go_wp2_with fail
        go_meet
        exact ⟨rfl, rfl⟩
    case rest =>
      obtain ⟨rfl, rfl⟩ := hcut
      go_upto_region 8 with fail
      have q1 := Q1.out
      have q2 := Q2.out
      refine wp_region_held_drew (S := fun w' => Below w.heap.size w w' ∧ BoxOf w' w.heap.size #[.int .u32 (id : Int), .int .u32 (ev : Int), .int .i64 (m : Int), .int .i64 (c : Int), .int .i64 (r : Int), .int .i64 (l : Int), .int .i64 (me : Int), .int .i64 z, .int .i64 (dn : Int), .bool op] 44 ∧ ∀ o, w'.cell? ⟨w.heap.size, o, none⟩ = #[.int .u32 (id : Int), .int .u32 (ev : Int), .int .i64 (m : Int), .int .i64 (c : Int), .int .i64 (r : Int), .int .i64 (l : Int), .int .i64 (me : Int), .int .i64 z, .int .i64 (dn : Int), .bool op].toList[o]?) (by kernel_rfl) ⟨Ext.drew t0, A0.drew, A0.drew.cell⟩ (fun hS => ?_)
      have G := G0.drew
      clear t0 A0 G0 x0
      refine wpAnyH_take (i := 0) (oi := _) (v := ?_) rfl (by kernel_rfl) (by kernel_rfl) (by kernel_rfl) (fun _ _ _ h => h) (Or.inl ⟨by rfl, ?_⟩) hS ?_
      rotate_left
      · (intro w hSw; (try dsimp only at hSw); go_simp; (try with_reducible rfl))
      rotate_left
      simp only [Act.put, List.getElem_toArray, List.getElem_cons_zero, List.getElem_cons_succ, List.setIfInBounds_toArray, List.set_cons_zero, List.set_cons_succ]
      refine wpAnyH_take (i := 2) (oi := _) (v := ?_) rfl (by kernel_rfl) (by kernel_rfl) (by kernel_rfl) (fun _ _ _ h => h) (Or.inl ⟨by rfl, ?_⟩) hS ?_
      rotate_left
      · (intro w hSw; (try dsimp only at hSw); go_simp; (try with_reducible rfl))
      rotate_left
      simp only [Act.put, List.getElem_toArray, List.getElem_cons_zero, List.getElem_cons_succ, List.setIfInBounds_toArray, List.set_cons_zero, List.set_cons_succ]
      refine wpAnyH_take (i := 3) (oi := _) (v := ?_) rfl (by kernel_rfl) (by kernel_rfl) (by kernel_rfl) (fun _ _ _ h => h) (Or.inl ⟨by rfl, ?_⟩) hS ?_
      rotate_left
      · (intro w hSw; (try dsimp only at hSw); go_simp; (try with_reducible rfl))
      rotate_left
      simp only [Act.put, List.getElem_toArray, List.getElem_cons_zero, List.getElem_cons_succ, List.setIfInBounds_toArray, List.set_cons_zero, List.set_cons_succ]
      refine wpAnyH_take (i := 4) (oi := _) (v := ?_) rfl (by kernel_rfl) (by kernel_rfl) (by kernel_rfl) (fun _ _ _ h => h) (Or.inl ⟨by rfl, ?_⟩) hS ?_
      rotate_left
      · (intro w hSw; (try dsimp only at hSw); go_simp; (try with_reducible rfl))
      rotate_left
      simp only [Act.put, List.getElem_toArray, List.getElem_cons_zero, List.getElem_cons_succ, List.setIfInBounds_toArray, List.set_cons_zero, List.set_cons_succ]
      refine wpAnyH_take (i := 5) (oi := _) (v := ?_) rfl (by kernel_rfl) (by kernel_rfl) (by kernel_rfl) (fun _ _ _ h => h) (Or.inl ⟨by rfl, ?_⟩) hS ?_
      rotate_left
      · (intro w hSw; (try dsimp only at hSw); go_simp; (try with_reducible rfl))
      rotate_left
      simp only [Act.put, List.getElem_toArray, List.getElem_cons_zero, List.getElem_cons_succ, List.setIfInBounds_toArray, List.set_cons_zero, List.set_cons_succ]
      refine wpAnyH_take (i := 7) (oi := _) (v := ?_) rfl (by kernel_rfl) (by kernel_rfl) (by kernel_rfl) (fun _ _ _ h => h) (Or.inl ⟨by rfl, ?_⟩) hS ?_
      rotate_left
      · (intro w hSw; (try dsimp only at hSw); go_simp; (try with_reducible rfl))
      rotate_left
      simp only [Act.put, List.getElem_toArray, List.getElem_cons_zero, List.getElem_cons_succ, List.setIfInBounds_toArray, List.set_cons_zero, List.set_cons_succ]
      refine wpAnyH_take (i := 8) (oi := _) (v := ?_) rfl (by kernel_rfl) (by kernel_rfl) (by kernel_rfl) (fun _ _ _ h => h) (Or.inl ⟨by rfl, ?_⟩) hS ?_
      rotate_left
      · (intro w hSw; (try dsimp only at hSw); go_simp; (try with_reducible rfl))
      rotate_left
      simp only [Act.put, List.getElem_toArray, List.getElem_cons_zero, List.getElem_cons_succ, List.setIfInBounds_toArray, List.set_cons_zero, List.set_cons_succ]
      refine wpAnyH_take (i := 9) (oi := _) (v := ?_) rfl (by kernel_rfl) (by kernel_rfl) (by kernel_rfl) (fun _ _ _ h => h) (Or.inl ⟨by rfl, ?_⟩) hS ?_
      rotate_left
      · (intro w hSw; (try dsimp only at hSw); go_simp; (try with_reducible rfl))
      rotate_left
      simp only [Act.put, List.getElem_toArray, List.getElem_cons_zero, List.getElem_cons_succ, List.setIfInBounds_toArray, List.set_cons_zero, List.set_cons_succ]
      refine wpAnyH_take (i := 10) (oi := _) (v := ?_) rfl (by kernel_rfl) (by kernel_rfl) (by kernel_rfl) (fun _ _ _ h => h) (Or.inl ⟨by rfl, ?_⟩) hS ?_
      rotate_left
      · (intro w hSw; (try dsimp only at hSw); go_simp; (try with_reducible rfl))
      rotate_left
      simp only [Act.put, List.getElem_toArray, List.getElem_cons_zero, List.getElem_cons_succ, List.setIfInBounds_toArray, List.set_cons_zero, List.set_cons_succ]
      refine wpAnyH_take (i := 12) (oi := _) (v := ?_) rfl (by kernel_rfl) (by kernel_rfl) (by kernel_rfl) (fun _ _ _ h => h) (Or.inl ⟨by rfl, ?_⟩) hS ?_
      rotate_left
      · (intro w hSw; (try dsimp only at hSw); go_simp; (try with_reducible rfl))
      rotate_left
      simp only [Act.put, List.getElem_toArray, List.getElem_cons_zero, List.getElem_cons_succ, List.setIfInBounds_toArray, List.set_cons_zero, List.set_cons_succ]
      refine wpAnyH_take (i := 13) (oi := _) (v := ?_) rfl (by kernel_rfl) (by kernel_rfl) (by kernel_rfl) (fun _ _ _ h => h) (Or.inl ⟨by rfl, ?_⟩) hS ?_
      rotate_left
      · (intro w hSw; (try dsimp only at hSw); go_simp; (try with_reducible rfl))
      rotate_left
      simp only [Act.put, List.getElem_toArray, List.getElem_cons_zero, List.getElem_cons_succ, List.setIfInBounds_toArray, List.set_cons_zero, List.set_cons_succ]
      refine wpAnyH_take (i := 14) (oi := _) (v := ?_) rfl (by kernel_rfl) (by kernel_rfl) (by kernel_rfl) (fun _ _ _ h => h) (Or.inl ⟨by rfl, ?_⟩) hS ?_
      rotate_left
      · (intro w hSw; (try dsimp only at hSw); go_simp; (try with_reducible rfl))
      rotate_left
      simp only [Act.put, List.getElem_toArray, List.getElem_cons_zero, List.getElem_cons_succ, List.setIfInBounds_toArray, List.set_cons_zero, List.set_cons_succ]
      refine wpAnyH_take (i := 16) (oi := _) (v := ?_) rfl (by kernel_rfl) (by kernel_rfl) (by kernel_rfl) (fun _ _ _ h => h) (Or.inl ⟨by rfl, ?_⟩) hS ?_
      rotate_left
      · (intro w hSw; (try dsimp only at hSw); go_simp; (try with_reducible rfl))
      rotate_left
      simp only [Act.put, List.getElem_toArray, List.getElem_cons_zero, List.getElem_cons_succ, List.setIfInBounds_toArray, List.set_cons_zero, List.set_cons_succ]
      refine wpAnyH_take (i := 17) (oi := _) (v := ?_) rfl (by kernel_rfl) (by kernel_rfl) (by kernel_rfl) (fun _ _ _ h => h) (Or.inl ⟨by rfl, ?_⟩) hS ?_
      rotate_left
      · (intro w hSw; (try dsimp only at hSw); go_simp; (try with_reducible rfl))
      rotate_left
      simp only [Act.put, List.getElem_toArray, List.getElem_cons_zero, List.getElem_cons_succ, List.setIfInBounds_toArray, List.set_cons_zero, List.set_cons_succ]
      refine wpAnyH_take (i := 18) (oi := _) (v := ?_) rfl (by kernel_rfl) (by kernel_rfl) (by kernel_rfl) (fun _ _ _ h => h) (Or.inl ⟨by rfl, ?_⟩) hS ?_
      rotate_left
      · (intro w hSw; (try dsimp only at hSw); go_simp; (try with_reducible rfl))
      rotate_left
      simp only [Act.put, List.getElem_toArray, List.getElem_cons_zero, List.getElem_cons_succ, List.setIfInBounds_toArray, List.set_cons_zero, List.set_cons_succ]
      refine wpAnyH_take (i := 20) (oi := _) (v := ?_) rfl (by kernel_rfl) (by kernel_rfl) (by kernel_rfl) (fun _ _ _ h => h) (Or.inl ⟨by rfl, ?_⟩) hS ?_
      rotate_left
      · (intro w hSw; (try dsimp only at hSw); go_simp; (try with_reducible rfl))
      rotate_left
      simp only [Act.put, List.getElem_toArray, List.getElem_cons_zero, List.getElem_cons_succ, List.setIfInBounds_toArray, List.set_cons_zero, List.set_cons_succ]
      refine wpAnyH_take (i := 21) (oi := _) (v := ?_) rfl (by kernel_rfl) (by kernel_rfl) (by kernel_rfl) (fun _ _ _ h => h) (Or.inl ⟨by rfl, ?_⟩) hS ?_
      rotate_left
      · (intro w hSw; (try dsimp only at hSw); go_simp; (try with_reducible rfl))
      rotate_left
      simp only [Act.put, List.getElem_toArray, List.getElem_cons_zero, List.getElem_cons_succ, List.setIfInBounds_toArray, List.set_cons_zero, List.set_cons_succ]
      refine wpAnyH_take (i := 22) (oi := _) (v := ?_) rfl (by kernel_rfl) (by kernel_rfl) (by kernel_rfl) (fun _ _ _ h => h) (Or.inl ⟨by rfl, ?_⟩) hS ?_
      rotate_left
      · (intro w hSw; (try dsimp only at hSw); go_simp; (try with_reducible rfl))
      rotate_left
      simp only [Act.put, List.getElem_toArray, List.getElem_cons_zero, List.getElem_cons_succ, List.setIfInBounds_toArray, List.set_cons_zero, List.set_cons_succ]
      refine wpAnyH_take (i := 24) (oi := _) (v := ?_) rfl (by kernel_rfl) (by kernel_rfl) (by kernel_rfl) (fun _ _ _ h => h) (Or.inl ⟨by rfl, ?_⟩) hS ?_
      rotate_left
      · (intro w hSw; (try dsimp only at hSw); go_simp; (try with_reducible rfl))
      rotate_left
      simp only [Act.put, List.getElem_toArray, List.getElem_cons_zero, List.getElem_cons_succ, List.setIfInBounds_toArray, List.set_cons_zero, List.set_cons_succ]
      refine wpAnyH_take (i := 25) (oi := _) (v := ?_) rfl (by kernel_rfl) (by kernel_rfl) (by kernel_rfl) (fun _ _ _ h => h) (Or.inl ⟨by rfl, ?_⟩) hS ?_
      rotate_left
      · (intro w hSw; (try dsimp only at hSw); go_simp; (try with_reducible rfl))
      rotate_left
      simp only [Act.put, List.getElem_toArray, List.getElem_cons_zero, List.getElem_cons_succ, List.setIfInBounds_toArray, List.set_cons_zero, List.set_cons_succ]
      refine wpAnyH_take (i := 26) (oi := _) (v := ?_) rfl (by kernel_rfl) (by kernel_rfl) (by kernel_rfl) (fun _ _ _ h => h) (Or.inl ⟨by rfl, ?_⟩) hS ?_
      rotate_left
      · (intro w hSw; (try dsimp only at hSw); go_simp; (try with_reducible rfl))
      rotate_left
      simp only [Act.put, List.getElem_toArray, List.getElem_cons_zero, List.getElem_cons_succ, List.setIfInBounds_toArray, List.set_cons_zero, List.set_cons_succ]
      refine wpAnyH_take (i := 28) (oi := _) (v := ?_) rfl (by kernel_rfl) (by kernel_rfl) (by kernel_rfl) (fun _ _ _ h => h) (Or.inl ⟨by rfl, ?_⟩) hS ?_
      rotate_left
      · (intro w hSw; (try dsimp only at hSw); go_simp; (try with_reducible rfl))
      rotate_left
      simp only [Act.put, List.getElem_toArray, List.getElem_cons_zero, List.getElem_cons_succ, List.setIfInBounds_toArray, List.set_cons_zero, List.set_cons_succ]
      refine wpAnyH_take (i := 29) (oi := _) (v := ?_) rfl (by kernel_rfl) (by kernel_rfl) (by kernel_rfl) (fun _ _ _ h => h) (Or.inl ⟨by rfl, ?_⟩) hS ?_
      rotate_left
      · (intro w hSw; (try dsimp only at hSw); go_simp; (try with_reducible rfl))
      rotate_left
      simp only [Act.put, List.getElem_toArray, List.getElem_cons_zero, List.getElem_cons_succ, List.setIfInBounds_toArray, List.set_cons_zero, List.set_cons_succ]
      refine wpAnyH_take (i := 30) (oi := _) (v := ?_) rfl (by kernel_rfl) (by kernel_rfl) (by kernel_rfl) (fun _ _ _ h => h) (Or.inl ⟨by rfl, ?_⟩) hS ?_
      rotate_left
      · (intro w hSw; (try dsimp only at hSw); go_simp; (try with_reducible rfl))
      rotate_left
      simp only [Act.put, List.getElem_toArray, List.getElem_cons_zero, List.getElem_cons_succ, List.setIfInBounds_toArray, List.set_cons_zero, List.set_cons_succ]
      refine wpAnyH_take (i := 32) (oi := _) (v := ?_) rfl (by kernel_rfl) (by kernel_rfl) (by kernel_rfl) (fun _ _ _ h => h) (Or.inl ⟨by rfl, ?_⟩) hS ?_
      rotate_left
      · (intro w hSw; (try dsimp only at hSw); go_simp; (try with_reducible rfl))
      rotate_left
      simp only [Act.put, List.getElem_toArray, List.getElem_cons_zero, List.getElem_cons_succ, List.setIfInBounds_toArray, List.set_cons_zero, List.set_cons_succ]
      refine wpAnyH_take (i := 33) (oi := _) (v := ?_) rfl (by kernel_rfl) (by kernel_rfl) (by kernel_rfl) (fun _ _ _ h => h) (Or.inl ⟨by rfl, ?_⟩) hS ?_
      rotate_left
      · (intro w hSw; (try dsimp only at hSw); go_simp; (try with_reducible rfl))
      rotate_left
      simp only [Act.put, List.getElem_toArray, List.getElem_cons_zero, List.getElem_cons_succ, List.setIfInBounds_toArray, List.set_cons_zero, List.set_cons_succ]
      refine wpAnyH_take (i := 35) (oi := _) (v := ?_) rfl (by kernel_rfl) (by kernel_rfl) (by kernel_rfl) (fun _ _ _ h => h) (Or.inl ⟨by rfl, ?_⟩) hS ?_
      rotate_left
      · (intro w hSw; (try dsimp only at hSw); go_simp; (try with_reducible rfl))
      rotate_left
      simp only [Act.put, List.getElem_toArray, List.getElem_cons_zero, List.getElem_cons_succ, List.setIfInBounds_toArray, List.set_cons_zero, List.set_cons_succ]
      refine wpAnyH_take (i := 36) (oi := _) (v := ?_) rfl (by kernel_rfl) (by kernel_rfl) (by kernel_rfl) (fun _ _ _ h => h) (Or.inl ⟨by rfl, ?_⟩) hS ?_
      rotate_left
      · (intro w hSw; (try dsimp only at hSw); go_simp; (try with_reducible rfl))
      rotate_left
      simp only [Act.put, List.getElem_toArray, List.getElem_cons_zero, List.getElem_cons_succ, List.setIfInBounds_toArray, List.set_cons_zero, List.set_cons_succ]
      refine wpAnyH_take (i := 37) (oi := _) (v := ?_) rfl (by kernel_rfl) (by kernel_rfl) (by kernel_rfl) (fun _ _ _ h => h) (Or.inl ⟨by rfl, ?_⟩) hS ?_
      rotate_left
      · (intro w hSw; (try dsimp only at hSw); go_simp; (try with_reducible rfl))
      rotate_left
      simp only [Act.put, List.getElem_toArray, List.getElem_cons_zero, List.getElem_cons_succ, List.setIfInBounds_toArray, List.set_cons_zero, List.set_cons_succ]
      refine wpAnyH_take (i := 39) (oi := _) (v := ?_) rfl (by kernel_rfl) (by kernel_rfl) (by kernel_rfl) (fun _ _ _ h => h) (Or.inl ⟨by rfl, ?_⟩) hS ?_
      rotate_left
      · (intro w hSw; (try dsimp only at hSw); go_simp; (try with_reducible rfl))
      rotate_left
      simp only [Act.put, List.getElem_toArray, List.getElem_cons_zero, List.getElem_cons_succ, List.setIfInBounds_toArray, List.set_cons_zero, List.set_cons_succ]
      refine wpAnyH_take (i := 40) (oi := _) (v := ?_) rfl (by kernel_rfl) (by kernel_rfl) (by kernel_rfl) (fun _ _ _ h => h) (Or.inl ⟨by rfl, ?_⟩) hS ?_
      rotate_left
      · (intro w hSw; (try dsimp only at hSw); go_simp; (try with_reducible rfl))
      rotate_left
      simp only [Act.put, List.getElem_toArray, List.getElem_cons_zero, List.getElem_cons_succ, List.setIfInBounds_toArray, List.set_cons_zero, List.set_cons_succ]
      clear q1 q2
      refine wpAnyH_ready (rs := [1]) (by kernel_rfl) (by simp) ?_
      refine AllReadyH.cons rfl (fun K hK => ?_) AllReadyH.nil
      rw [if_pos (by rfl)]
      go_simp
      refine (field1_any (w.heap.size + 1) (w.heap.size + 1) _ 0 1 (Nat.le_refl _) (by decide) (by decide) _ G).mono ?_
      rintro e v ⟨rfl, G', b5⟩
      have Gn : BoxOf v (w.heap.size + 1) #[.int .i64 1] 3 := G'
      refine hK.out _ _ ⟨hS.1.trans (b5.mono (by omega)), hS.2.1.below b5 (by omega), (hS.2.1.below b5 (by omega)).cell⟩ (fun hS' => ?_)
      clear hK K hS b5 G G'
      have G := Gn
      have hS := hS'
      clear hS' Gn
      try simp only [Act.put, List.getElem_toArray, List.getElem_cons_zero, List.getElem_cons_succ, List.setIfInBounds_toArray, List.set_cons_zero, List.set_cons_succ]
      refine wpAnyH_ready (rs := [6]) (by kernel_rfl) (by simp) ?_
      refine AllReadyH.cons rfl (fun K hK => ?_) AllReadyH.nil
      rw [if_pos (by rfl)]
      go_simp
      refine (field1_any (w.heap.size + 1) (w.heap.size + 1) _ 1 4 (Nat.le_refl _) (by decide) (by decide) _ G).mono ?_
      rintro e v ⟨rfl, G', b5⟩
      have Gn : BoxOf v (w.heap.size + 1) #[.int .i64 5] 3 := G'
      refine hK.out _ _ ⟨hS.1.trans (b5.mono (by omega)), hS.2.1.below b5 (by omega), (hS.2.1.below b5 (by omega)).cell⟩ (fun hS' => ?_)
      clear hK K hS b5 G G'
      have G := Gn
      have hS := hS'
      clear hS' Gn
      try simp only [Act.put, List.getElem_toArray, List.getElem_cons_zero, List.getElem_cons_succ, List.setIfInBounds_toArray, List.set_cons_zero, List.set_cons_succ]
      refine wpAnyH_ready (rs := [11]) (by kernel_rfl) (by simp) ?_
      refine AllReadyH.cons rfl (fun K hK => ?_) AllReadyH.nil
      rw [if_pos (by rfl)]
      go_simp
      refine (field1_any (w.heap.size + 1) (w.heap.size + 1) _ 5 4 (Nat.le_refl _) (by decide) (by decide) _ G).mono ?_
      rintro e v ⟨rfl, G', b5⟩
      have Gn : BoxOf v (w.heap.size + 1) #[.int .i64 9] 3 := G'
      refine hK.out _ _ ⟨hS.1.trans (b5.mono (by omega)), hS.2.1.below b5 (by omega), (hS.2.1.below b5 (by omega)).cell⟩ (fun hS' => ?_)
      clear hK K hS b5 G G'
      have G := Gn
      have hS := hS'
      clear hS' Gn
      try simp only [Act.put, List.getElem_toArray, List.getElem_cons_zero, List.getElem_cons_succ, List.setIfInBounds_toArray, List.set_cons_zero, List.set_cons_succ]
      refine wpAnyH_ready (rs := [15]) (by kernel_rfl) (by simp) ?_
      refine AllReadyH.cons rfl (fun K hK => ?_) AllReadyH.nil
      rw [if_pos (by rfl)]
      go_simp
      refine (field1_any (w.heap.size + 1) (w.heap.size + 1) _ 9 1 (Nat.le_refl _) (by decide) (by decide) _ G).mono ?_
      rintro e v ⟨rfl, G', b5⟩
      have Gn : BoxOf v (w.heap.size + 1) #[.int .i64 10] 3 := G'
      refine hK.out _ _ ⟨hS.1.trans (b5.mono (by omega)), hS.2.1.below b5 (by omega), (hS.2.1.below b5 (by omega)).cell⟩ (fun hS' => ?_)
      clear hK K hS b5 G G'
      have G := Gn
      have hS := hS'
      clear hS' Gn
      try simp only [Act.put, List.getElem_toArray, List.getElem_cons_zero, List.getElem_cons_succ, List.setIfInBounds_toArray, List.set_cons_zero, List.set_cons_succ]
      refine wpAnyH_ready (rs := [19]) (by kernel_rfl) (by simp) ?_
      refine AllReadyH.cons rfl (fun K hK => ?_) AllReadyH.nil
      rw [if_pos (by rfl)]
      go_simp
      refine (field1_any (w.heap.size + 1) (w.heap.size + 1) _ 10 1 (Nat.le_refl _) (by decide) (by decide) _ G).mono ?_
      rintro e v ⟨rfl, G', b5⟩
      have Gn : BoxOf v (w.heap.size + 1) #[.int .i64 11] 3 := G'
      refine hK.out _ _ ⟨hS.1.trans (b5.mono (by omega)), hS.2.1.below b5 (by omega), (hS.2.1.below b5 (by omega)).cell⟩ (fun hS' => ?_)
      clear hK K hS b5 G G'
      have G := Gn
      have hS := hS'
      clear hS' Gn
      try simp only [Act.put, List.getElem_toArray, List.getElem_cons_zero, List.getElem_cons_succ, List.setIfInBounds_toArray, List.set_cons_zero, List.set_cons_succ]
      refine wpAnyH_ready (rs := [23]) (by kernel_rfl) (by simp) ?_
      refine AllReadyH.cons rfl (fun K hK => ?_) AllReadyH.nil
      rw [if_pos (by rfl)]
      go_simp
      refine (field1_any (w.heap.size + 1) (w.heap.size + 1) _ 11 1 (Nat.le_refl _) (by decide) (by decide) _ G).mono ?_
      rintro e v ⟨rfl, G', b5⟩
      have Gn : BoxOf v (w.heap.size + 1) #[.int .i64 12] 3 := G'
      refine hK.out _ _ ⟨hS.1.trans (b5.mono (by omega)), hS.2.1.below b5 (by omega), (hS.2.1.below b5 (by omega)).cell⟩ (fun hS' => ?_)
      clear hK K hS b5 G G'
      have G := Gn
      have hS := hS'
      clear hS' Gn
      try simp only [Act.put, List.getElem_toArray, List.getElem_cons_zero, List.getElem_cons_succ, List.setIfInBounds_toArray, List.set_cons_zero, List.set_cons_succ]
      refine wpAnyH_ready (rs := [27]) (by kernel_rfl) (by simp) ?_
      refine AllReadyH.cons rfl (fun K hK => ?_) AllReadyH.nil
      rw [if_pos (by rfl)]
      go_simp
      refine (field1_any (w.heap.size + 1) (w.heap.size + 1) _ 12 1 (Nat.le_refl _) (by decide) (by decide) _ G).mono ?_
      rintro e v ⟨rfl, G', b5⟩
      have Gn : BoxOf v (w.heap.size + 1) #[.int .i64 13] 3 := G'
      refine hK.out _ _ ⟨hS.1.trans (b5.mono (by omega)), hS.2.1.below b5 (by omega), (hS.2.1.below b5 (by omega)).cell⟩ (fun hS' => ?_)
      clear hK K hS b5 G G'
      have G := Gn
      have hS := hS'
      clear hS' Gn
      try simp only [Act.put, List.getElem_toArray, List.getElem_cons_zero, List.getElem_cons_succ, List.setIfInBounds_toArray, List.set_cons_zero, List.set_cons_succ]
      refine wpAnyH_ready (rs := [31]) (by kernel_rfl) (by simp) ?_
      refine AllReadyH.cons rfl (fun K hK => ?_) AllReadyH.nil
      rw [if_pos (by rfl)]
      go_simp
      refine (field1_any (w.heap.size + 1) (w.heap.size + 1) _ 13 1 (Nat.le_refl _) (by decide) (by decide) _ G).mono ?_
      rintro e v ⟨rfl, G', b5⟩
      have Gn : BoxOf v (w.heap.size + 1) #[.int .i64 14] 3 := G'
      refine hK.out _ _ ⟨hS.1.trans (b5.mono (by omega)), hS.2.1.below b5 (by omega), (hS.2.1.below b5 (by omega)).cell⟩ (fun hS' => ?_)
      clear hK K hS b5 G G'
      have G := Gn
      have hS := hS'
      clear hS' Gn
      try simp only [Act.put, List.getElem_toArray, List.getElem_cons_zero, List.getElem_cons_succ, List.setIfInBounds_toArray, List.set_cons_zero, List.set_cons_succ]
      refine wpAnyH_ready (rs := [34]) (by kernel_rfl) (by simp) ?_
      refine AllReadyH.cons rfl (fun K hK => ?_) AllReadyH.nil
      rw [if_pos (by rfl)]
      go_simp
      refine (field1_any (w.heap.size + 1) (w.heap.size + 1) _ 14 1 (Nat.le_refl _) (by decide) (by decide) _ G).mono ?_
      rintro e v ⟨rfl, G', b5⟩
      have Gn : BoxOf v (w.heap.size + 1) #[.int .i64 15] 3 := G'
      refine hK.out _ _ ⟨hS.1.trans (b5.mono (by omega)), hS.2.1.below b5 (by omega), (hS.2.1.below b5 (by omega)).cell⟩ (fun hS' => ?_)
      clear hK K hS b5 G G'
      have G := Gn
      have hS := hS'
      clear hS' Gn
      try simp only [Act.put, List.getElem_toArray, List.getElem_cons_zero, List.getElem_cons_succ, List.setIfInBounds_toArray, List.set_cons_zero, List.set_cons_succ]
      refine wpAnyH_ready (rs := [38]) (by kernel_rfl) (by simp) ?_
      refine AllReadyH.cons rfl (fun K hK => ?_) AllReadyH.nil
      rw [if_pos (by rfl)]
      go_simp
      refine (field1_any (w.heap.size + 1) (w.heap.size + 1) _ 15 1 (Nat.le_refl _) (by decide) (by decide) _ G).mono ?_
      rintro e v ⟨rfl, G', b5⟩
      have Gn : BoxOf v (w.heap.size + 1) #[.int .i64 16] 3 := G'
      refine hK.out _ _ ⟨hS.1.trans (b5.mono (by omega)), hS.2.1.below b5 (by omega), (hS.2.1.below b5 (by omega)).cell⟩ (fun hS' => ?_)
      clear hK K hS b5 G G'
      have G := Gn
      have hS := hS'
      clear hS' Gn
      try simp only [Act.put, List.getElem_toArray, List.getElem_cons_zero, List.getElem_cons_succ, List.setIfInBounds_toArray, List.set_cons_zero, List.set_cons_succ]
      refine wpAnyH_ready (rs := [41]) (by kernel_rfl) (by simp) ?_
      refine AllReadyH.cons rfl (fun K hK => ?_) AllReadyH.nil
      rw [if_pos (by rfl)]
      go_simp
      refine (field1_any (w.heap.size + 1) (w.heap.size + 1) _ 16 1 (Nat.le_refl _) (by decide) (by decide) _ G).mono ?_
      rintro e v ⟨rfl, G', b5⟩
      have Gn : BoxOf v (w.heap.size + 1) #[.int .i64 17] 3 := G'
      refine hK.out _ _ ⟨hS.1.trans (b5.mono (by omega)), hS.2.1.below b5 (by omega), (hS.2.1.below b5 (by omega)).cell⟩ (fun hS' => ?_)
      clear hK K hS b5 G G'
      have G := Gn
      have hS := hS'
      clear hS' Gn
      try simp only [Act.put, List.getElem_toArray, List.getElem_cons_zero, List.getElem_cons_succ, List.setIfInBounds_toArray, List.set_cons_zero, List.set_cons_succ]
      refine wpAnyH_ready (rs := [42]) (by kernel_rfl) (by simp) ?_
      refine AllReadyH.cons rfl (fun K hK => ?_) AllReadyH.nil
      rw [if_pos (by rfl)]
      go_simp
      have hcells := fields_cells id ev m c r l me lo dn op v v.heap.size rfl
      have HCL := Lib.hid hcells
      clear hcells
      refine hK.out _ _ ⟨Ext.alloc hS.1 _, hS.2.1.alloc _, (hS.2.1.alloc _).cell⟩ (fun hS' => ?_)
      clear hK K hS G
      have hS := hS'
      clear hS'
      try simp only [Act.put, List.getElem_toArray, List.getElem_cons_zero, List.getElem_cons_succ, List.setIfInBounds_toArray, List.set_cons_zero, List.set_cons_succ]
      refine wpAnyH_take (i := 43) (oi := _) (v := ?_) rfl (by kernel_rfl) (by kernel_rfl) (by kernel_rfl) (fun _ _ _ h => h) (Or.inl ⟨by rfl, ?_⟩) hS ?_
      rotate_left
      · (intro w hSw; (try dsimp only at hSw); go_simp; (try with_reducible rfl))
      rotate_left
      simp only [Act.put, List.getElem_toArray, List.getElem_cons_zero, List.getElem_cons_succ, List.setIfInBounds_toArray, List.set_cons_zero, List.set_cons_succ]
      refine wpAnyH_done (by kernel_rfl) ?_ _
      have t8 := hS.1
      clear hS
      go_wp2
      go_ret
      first
        | exact ⟨_, rfl, HCL.out, t8⟩
        | exact ⟨_, ⟨rfl, rfl⟩, HCL.out, t8⟩
        | exact ⟨_, ⟨_, rfl⟩, HCL.out, t8⟩
        | (refine ⟨_, ?_, HCL.out, t8⟩; simp)
end Go.Proofs.Ytgmlhfencidahaa
