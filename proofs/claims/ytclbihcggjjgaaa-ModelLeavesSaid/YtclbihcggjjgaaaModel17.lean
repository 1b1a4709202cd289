/- Layer 30 (model): the reference: whether two plain arrays are one. -/
import Derived.Test.YtclbihcggjjgaaaModel16
namespace Go.Proofs.Ytclbihcggjjgaaa
open Go Go.RowKit
set_option linter.unusedSimpArgs false
set_option linter.unusedVariables false

def set6 (w : World) (g : Nat) (v0 v1 v2 v3 v4 v5 : Value) : World := (((((w.setCell ⟨g, 0, none⟩ v0).setCell ⟨g, 1, none⟩ v1).setCell ⟨g, 2, none⟩ v2).setCell ⟨g, 3, none⟩ v3).setCell ⟨g, 4, none⟩ v4).setCell ⟨g, 5, none⟩ v5
theorem set6_self {w : World} {g : Nat} {a b c d e f : Value} {t : TypeId} (h : BoxOf w g #[a, b, c, d, e, f] t) (v0 v1 v2 v3 v4 v5 : Value) : BoxOf (set6 w g v0 v1 v2 v3 v4 v5) g #[v0, v1, v2, v3, v4, v5] t :=
  mbox_self (mbox_self (mbox_self (mbox_self (mbox_self (mbox_self h 0 v0) 1 v1) 2 v2) 3 v3) 4 v4) 5 v5
theorem set6_else {w : World} {g k : Nat} {cs : Array Value} {t : TypeId} (h : BoxOf w g cs t) (hk : g ≠ k) (v0 v1 v2 v3 v4 v5 : Value) : BoxOf (set6 w k v0 v1 v2 v3 v4 v5) g cs t :=
  mbox_else (mbox_else (mbox_else (mbox_else (mbox_else (mbox_else h hk 0 v0) hk 1 v1) hk 2 v2) hk 3 v3) hk 4 v4) hk 5 v5
theorem set6_below {B g : Nat} {W w : World} (h : Below B W w) (hg : B ≤ g) (v0 v1 v2 v3 v4 v5 : Value) : Below B W (set6 w g v0 v1 v2 v3 v4 v5) :=
  (((((h.setCell (p := ⟨g, 0, none⟩) hg v0).setCell (p := ⟨g, 1, none⟩) hg v1).setCell (p := ⟨g, 2, none⟩) hg v2).setCell (p := ⟨g, 3, none⟩) hg v3).setCell (p := ⟨g, 4, none⟩) hg v4).setCell (p := ⟨g, 5, none⟩) hg v5
set_option maxRecDepth 100000 in
set_option maxHeartbeats 1000000 in
theorem rsame8_any (k a y : Int) (A : Option Addr) (c : Nat) (bs : List UInt8) (k' a' y' : Int) (A' : Option Addr) (c' : Nat) (bs' : List UInt8) (w : World) (h1 : Bs w A bs.length bs) (h2 : Bs w A' bs'.length bs') :
    Calls Try.prog 36 #[.agg #[.int .u8 k, .int .i64 a, .int .i64 y, .slice A bs.length c], .agg #[.int .u8 k', .int .i64 a', .int .i64 y', .slice A' bs'.length c']] w fun e w' => YesNo (k = k' ∧ a = a' ∧ y = y' ∧ bs = bs') e ∧ Below w.heap.size w w' := by
  have P0 := BoxOf.alloc (BoxOf.new w #[.int .u8 k, .int .i64 a, .int .i64 y, .slice A bs.length c] 58) (.cells #[.int .u8 k', .int .i64 a', .int .i64 y', .slice A' bs'.length c'] 58)
  have Q0 := BoxOf.new' (w.alloc (.cells #[.int .u8 k, .int .i64 a, .int .i64 y, .slice A bs.length c] 58)) (w.heap.size + 1) #[.int .u8 k', .int .i64 a', .int .i64 y', .slice A' bs'.length c'] 58 (by simp)
  have t0 := Ext.alloc (Ext.alloc (Below.refl w.heap.size w) (.cells #[.int .u8 k, .int .i64 a, .int .i64 y, .slice A bs.length c] 58)) (.cells #[.int .u8 k', .int .i64 a', .int .i64 y', .slice A' bs'.length c'] 58)
  have s1 := run_string_bs (P := Try.prog) c 29 9 5 Try.underlying29 Try.underlying5 Try.underlying9 (h1.below t0)
  have s2 := run_string_bs (P := Try.prog) c' 29 9 5 Try.underlying29 Try.underlying5 Try.underlying9 (h2.below t0)
  clear h1 h2
  go_enter Try.func36, Try.ntmps36
  go_upto_region 1 with fail
  generalize (w.alloc (.cells #[.int .u8 k, .int .i64 a, .int .i64 y, .slice A bs.length c] 58)).alloc (.cells #[.int .u8 k', .int .i64 a', .int .i64 y', .slice A' bs'.length c'] 58) = W at *
  have x0 := P0.cell
  have y0 := Q0.cell
  rcases Bool.eq_false_or_eq_true (k == k') with e1 | e1
  · rcases Bool.eq_false_or_eq_true (a == a') with e2 | e2
    · rcases Bool.eq_false_or_eq_true (y == y') with e3 | e3
      · go_wp2
        go_ret
        refine ⟨YesNo.of ?_, t0⟩
        simp only [beq_iff_eq] at e1 e2 e3
        simp [e1, e2, e3]
      · go_wp2
        go_ret
        exact ⟨YesNo.no fun h => by rw [h.2.2.1] at e3; simp at e3, t0⟩
    · go_wp2
      go_ret
      exact ⟨YesNo.no fun h => by rw [h.2.1] at e2; simp at e2, t0⟩
  · go_wp2
    go_ret
    exact ⟨YesNo.no fun h => by rw [h.1] at e1; simp at e1, t0⟩
theorem go_ext {g g' : GoTy.T} (h1 : nuOf g = nuOf g') (h2 : kiOf g = kiOf g') (h3 : atOf g = atOf g') (h4 : manyOf g = manyOf g') (h5 : datOf g = datOf g') (h6 : mksOf g = mksOf g') : g = g' := by
  obtain ⟨n, ⟨k, a, y, b, u⟩, ms, u'⟩ := g
  obtain ⟨n', ⟨k', a', y', b', v⟩, ms', v'⟩ := g'
  obtain rfl : n = n' := h1
  obtain rfl : k = k' := h2
  obtain rfl : a = a' := h3
  obtain rfl : y = y' := h4
  obtain rfl : b = b' := h5
  obtain rfl : ms = ms' := h6
  rfl
/-- alike at a place -/
def LikeAt {α : Type} (l l' : List α) (i : Nat) : Prop := ∀ (h : i < l.length) (h' : i < l'.length), l[i] = l'[i]
theorem like_all {α : Type} {l l' : List α} (hl : l.length = l'.length) {j : Nat} (hj : ¬ j < l.length) (h : ∀ i, i < j → LikeAt l l' i) : l = l' :=
  List.ext_getElem hl fun i h1 h2 => h i (by omega) h1 h2

set_option maxRecDepth 100000 in
set_option maxHeartbeats 4000000 in
theorem rsame_any (S T : Nat → Prop) (ys : List (List (List UInt8))) (gs : List GoTy.T) (A : Option Addr) (c : Nat) (B : Option Addr) (d : Nat) (zs : List (List (List UInt8))) (hs : List GoTy.T) (E : Option Addr) (f : Nat) (F : Option Addr) (g : Nat) (w : World) (hy : RdIn w S (.sl (.sl (.sl .byte))) ys [.slice A ys.length c]) (hg : RdIn w S (.sl GoTy) gs [.slice B gs.length d]) (hz : RdIn w T (.sl (.sl (.sl .byte))) zs [.slice E zs.length f]) (hh : RdIn w T (.sl GoTy) hs [.slice F hs.length g]) :
    Calls Try.prog 15 #[.agg #[.slice A ys.length c, .slice B gs.length d], .agg #[.slice E zs.length f, .slice F hs.length g]] w fun e w' => YesNo (ys = zs ∧ gs = hs) e ∧ Below w.heap.size w w' := by
  have P0 := BoxOf.alloc (BoxOf.new w #[.slice A ys.length c, .slice B gs.length d] 28) (.cells #[.slice E zs.length f, .slice F hs.length g] 28)
  have Q0 := BoxOf.new' (w.alloc (.cells #[.slice A ys.length c, .slice B gs.length d] 28)) (w.heap.size + 1) #[.slice E zs.length f, .slice F hs.length g] 28 (by simp)
  have t0 := Ext.alloc (Ext.alloc (Below.refl w.heap.size w) (.cells #[.slice A ys.length c, .slice B gs.length d] 28)) (.cells #[.slice E zs.length f, .slice F hs.length g] 28)
  have HY := Lib.hid (hy.below t0)
  have HG := Lib.hid (hg.below t0)
  have HZ := Lib.hid (hz.below t0)
  have HH := Lib.hid (hh.below t0)
  have HYM := Lib.hid (may_max hy)
  have HGM := Lib.hid (go_max hg)
  clear hy hg hz hh
  go_enter Try.func15, Try.ntmps15
  go_upto_region 1 with fail
  generalize (w.alloc (.cells #[.slice A ys.length c, .slice B gs.length d] 28)).alloc (.cells #[.slice E zs.length f, .slice F hs.length g] 28) = W at *
  have x0 := P0.cell
  have y0 := Q0.cell
  rcases Bool.eq_false_or_eq_true ((ys.length : Int) != (zs.length : Int)) with e1 | e1
  · go_wp2
    go_ret
    exact ⟨YesNo.no fun h => by rw [h.1] at e1; simp at e1, t0⟩
  · rcases Bool.eq_false_or_eq_true ((gs.length : Int) != (hs.length : Int)) with e2 | e2
    · go_wp2
      go_ret
      exact ⟨YesNo.no fun h => by rw [h.2] at e2; simp at e2, t0⟩
    · have HLY : Hid (ys.length = zs.length) := by have h9 : (ys.length : Int) = (zs.length : Int) := (by simpa using e1)
                                                   show _ = _
                                                   omega
      have HLG : Hid (gs.length = hs.length) := by have h9 : (gs.length : Int) = (hs.length : Int) := (by simpa using e2)
                                                   show _ = _
                                                   omega
      go_wp2
      clear e1 e2
      go_loopw [5] (fun i wr => ∃ (k : Nat), k ≤ ys.length ∧ i = .int .i64 k ∧ Below W.heap.size W wr ∧ Hid (∀ i, i < k → LikeAt ys zs i)) (fun i _ => ys.length - (intOf i).toNat)
      case atStart => exact ⟨0, by omega, rfl, Below.refl _ _, fun i h => absurd h (Nat.not_lt_zero _)⟩
      case round =>
        obtain ⟨k, hk, rfl, b1, HA⟩ := hrel
        clear x0 y0
        have P1 := P0.next b1
        have Q1 := Q0.next b1
        have x1 := P1.cell
        have y1 := Q1.cell
        have t1 := Ext.trans t0 b1
        by_cases hlt : k < ys.length
        · have hlt2 : k < zs.length := by have := HLY.out; omega
          obtain ⟨b, off, A2, c2, rfl, q2, r2⟩ := may_at (HY.out.below b1) hlt
          obtain ⟨b', off', A3, c3, rfl, q3, r3⟩ := may_at (HZ.out.below b1) hlt2
          have HLK : Hid (LikeAt ys zs k ↔ ys[k] = zs[k]) := ⟨fun h => h hlt hlt2, fun h _ _ => h⟩
          generalize ys[k] = us at *
          generalize zs[k] = vs at *
          have HWK := next_wrap HYM.out hlt
          have HLT := Lib.hid hlt
          have HL2 := Lib.hid hlt2
          have HUM := Lib.hid (val_max r2)
          have HR2 := Lib.hid r2
          have HR3 := Lib.hid r3
          clear r2 r3
          rcases Bool.eq_false_or_eq_true ((us.length : Int) != (vs.length : Int)) with e1 | e1
          · go_wp2
            go_quiet (fail)
            go_wp2
            go_ret
            exact ⟨YesNo.no fun h => by have h9 : us = vs := HLK.out.1 (by rw [h.1]; intro _ _; rfl); rw [h9] at e1; simp at e1, below_drewN' t1 _⟩
          · have HLU : Hid (us.length = vs.length) := by have h9 : (us.length : Int) = (vs.length : Int) := (by simpa using e1)
                                                         show _ = _
                                                         omega
            go_wp2
            go_quiet (fail)
            have b1d := below_drewN' b1 nq
            have P1d := P1.drewN nq
            have Q1d := Q1.drewN nq
            have x1d := P1d.cell
            have y1d := Q1d.cell
            have q2d : (wr.drewN nq).cell? ⟨b, off + k, none⟩ = _ := q2
            have q3d : (wr.drewN nq).cell? ⟨b', off' + k, none⟩ = _ := q3
            have HR2d := Lib.hid (HR2.out.below (below_drewN' (Below.refl wr.heap.size wr) nq))
            have HR3d := Lib.hid (HR3.out.below (below_drewN' (Below.refl wr.heap.size wr) nq))
            generalize wr.drewN nq = wd at *
            clear b1 P1 Q1 x1 y1 q2 q3 HR2 HR3 t1
            obtain ⟨w0, hw0⟩ : ∃ z : World, z = wd := ⟨_, rfl⟩
            have q2r := q2d
            have q3r := q3d
            rw [← hw0] at b1d q2d q3d HR2d HR3d P1d Q1d
            have bw0 : Below w0.heap.size w0 wd := by rw [hw0]; exact Below.refl _ _
            go_wp2
            clear e1
            go_loopw [6] (fun i wq => ∃ (j : Nat), j ≤ us.length ∧ i = .int .i64 j ∧ Below w0.heap.size w0 wq ∧ Hid (∀ i, i < j → LikeAt us vs i)) (fun i _ => us.length - (intOf i).toNat)
            case atStart => exact ⟨0, by omega, rfl, bw0, fun i h => absurd h (Nat.not_lt_zero _)⟩
            case round =>
              obtain ⟨j, hj, rfl, b2, HB⟩ := hrel
              clear x1d y1d q2r q3r bw0 hw0
              have P2 := P1d.next b2
              have Q2 := Q1d.next b2
              have x2 := P2.cell
              have y2 := Q2.cell
              have q4 := (b2.cell (p := ⟨b, off + k, none⟩) (block_lt_of_cell q2d)).trans q2d
              have q5 := (b2.cell (p := ⟨b', off' + k, none⟩) (block_lt_of_cell q3d)).trans q3d
              have b3 := Ext.trans b1d b2
              have t3 := Ext.trans t0 b3
              by_cases hltj : j < us.length
              · have hltj2 : j < vs.length := by have := HLU.out; omega
                obtain ⟨b5, off5, A5, c5, rfl, q6, r5⟩ := val_at (HR2d.out.below b2) hltj
                obtain ⟨b6, off6, A6, c6, rfl, q7, r6⟩ := val_at (HR3d.out.below b2) hltj2
                have HLJ2 : Hid (LikeAt us vs j ↔ us[j] = vs[j]) := ⟨fun h => h hltj hltj2, fun h _ _ => h⟩
                generalize us[j] = bs at *
                generalize vs[j] = ds at *
                have HWJ := next_wrap HUM.out hltj
                have HLJ := Lib.hid hltj
                have HB5 := Lib.hid r5
                have HB6 := Lib.hid r6
                have HLJJ := Lib.hid hltj2
                clear r5 r6 hj
                go_upto_region 11 with fail
                clear x2 y2
                rcases Bool.eq_false_or_eq_true (bs == ds) with e3 | e3
                · have HB' : Hid (∀ i, i < j + 1 → LikeAt us vs i) := by
                    intro i hi
                    by_cases h : i = j
                    · subst h
                      exact HLJ2.out.2 (by simpa using e3)
                    · exact HB.out i (by omega)
                  have HS : Hid (∀ w', Below wr.heap.size wr w' → (Below wr.heap.size wr w' ∧ (∀ o, w'.cell? ⟨w.heap.size, o, none⟩ = #[.slice (some ⟨b, off, none⟩) ys.length c, .slice B gs.length d].toList[o]?) ∧ (∀ o, w'.cell? ⟨w.heap.size + 1, o, none⟩ = #[.slice (some ⟨b', off', none⟩) zs.length f, .slice F hs.length g].toList[o]?) ∧ w'.cell? ⟨b, off + k, none⟩ = some (.slice (some ⟨b5, off5, none⟩) us.length c2) ∧ w'.cell? ⟨b', off' + k, none⟩ = some (.slice (some ⟨b6, off6, none⟩) vs.length c3) ∧ w'.cell? ⟨b5, off5 + j, none⟩ = some (.slice A5 bs.length c5) ∧ w'.cell? ⟨b6, off6 + j, none⟩ = some (.slice A6 ds.length c6) ∧ Bs w' A5 bs.length bs ∧ Bs w' A6 ds.length ds)) := fun w' b => ⟨b, (P2.next b).cell, (Q2.next b).cell, (b.cell (block_lt_of_cell q4)).trans q4, (b.cell (block_lt_of_cell q5)).trans q5, (b.cell (block_lt_of_cell q6)).trans q6, (b.cell (block_lt_of_cell q7)).trans q7, HB5.out.bytes_bs.below b, HB6.out.bytes_bs.below b⟩
                  refine wp_region_held_drew (S := fun w' => Below wr.heap.size wr w' ∧ (∀ o, w'.cell? ⟨w.heap.size, o, none⟩ = #[.slice (some ⟨b, off, none⟩) ys.length c, .slice B gs.length d].toList[o]?) ∧ (∀ o, w'.cell? ⟨w.heap.size + 1, o, none⟩ = #[.slice (some ⟨b', off', none⟩) zs.length f, .slice F hs.length g].toList[o]?) ∧ w'.cell? ⟨b, off + k, none⟩ = some (.slice (some ⟨b5, off5, none⟩) us.length c2) ∧ w'.cell? ⟨b', off' + k, none⟩ = some (.slice (some ⟨b6, off6, none⟩) vs.length c3) ∧ w'.cell? ⟨b5, off5 + j, none⟩ = some (.slice A5 bs.length c5) ∧ w'.cell? ⟨b6, off6 + j, none⟩ = some (.slice A6 ds.length c6) ∧ Bs w' A5 bs.length bs ∧ Bs w' A6 ds.length ds) (by kernel_rfl) (HS.out _ (Ext.drew (Below.refl _ _))) (fun hS => ?_)
                  refine wpAnyH_take (i := 0) (oi := _) (v := ?_) rfl (by kernel_rfl) (by kernel_rfl) (by kernel_rfl) (fun _ _ _ h => h) (Or.inl ⟨by rfl, ?_⟩) hS ?_
                  rotate_left
                  · (intro w hSw; (try dsimp only at hSw); go_simp; (try with_reducible rfl))
                  rotate_left
                  simp only [Act.put, List.getElem_toArray, List.getElem_cons_zero, List.getElem_cons_succ, List.setIfInBounds_toArray, List.set_cons_zero, List.set_cons_succ]
                  refine wpAnyH_take (i := 1) (oi := _) (v := ?_) rfl (by kernel_rfl) (by kernel_rfl) (by kernel_rfl) (fun _ _ _ h => h) (Or.inl ⟨by rfl, ?_⟩) hS ?_
                  rotate_left
                  · (intro w hSw; (try dsimp only at hSw); go_simp; (try with_reducible rfl))
                  rotate_left
                  simp only [Act.put, List.getElem_toArray, List.getElem_cons_zero, List.getElem_cons_succ, List.setIfInBounds_toArray, List.set_cons_zero, List.set_cons_succ]
                  refine wpAnyH_take (i := 2) (oi := _) (v := ?_) rfl (by kernel_rfl) (by kernel_rfl) (by kernel_rfl) (fun _ _ _ h => h) (Or.inl ⟨by rfl, ?_⟩) hS ?_
                  rotate_left
                  · (intro w hSw; (try dsimp only at hSw); go_simp; (try with_reducible rfl))
                  rotate_left
                  simp only [Act.put, List.getElem_toArray, List.getElem_cons_zero, List.getElem_cons_succ, List.setIfInBounds_toArray, List.set_cons_zero, List.set_cons_succ]
                  refine wpAnyH_take (i := 3) (oi := _) (v := ?_) rfl (by kernel_rfl) (by kernel_rfl) (by kernel_rfl) (fun _ _ _ h => h) (Or.inl ⟨by rfl, ?_⟩) hS ?_
                  rotate_left
                  · (intro w hSw; (try dsimp only at hSw); go_simp; (try with_reducible rfl))
                  rotate_left
                  simp only [Act.put, List.getElem_toArray, List.getElem_cons_zero, List.getElem_cons_succ, List.setIfInBounds_toArray, List.set_cons_zero, List.set_cons_succ]
                  refine wpAnyH_take (i := 4) (oi := _) (v := ?_) rfl (by kernel_rfl) (by kernel_rfl) (by kernel_rfl) (fun _ _ _ h => h) (Or.inl ⟨by rfl, ?_⟩) hS ?_
                  rotate_left
                  · (intro w hSw; (try dsimp only at hSw); go_simp; (try with_reducible rfl))
                  rotate_left
                  simp only [Act.put, List.getElem_toArray, List.getElem_cons_zero, List.getElem_cons_succ, List.setIfInBounds_toArray, List.set_cons_zero, List.set_cons_succ]
                  refine wpAnyH_take (i := 5) (oi := _) (v := ?_) rfl (by kernel_rfl) (by kernel_rfl) (by kernel_rfl) (fun _ _ _ h => h) (Or.inl ⟨by rfl, ?_⟩) hS ?_
                  rotate_left
                  · (intro w hSw; (try dsimp only at hSw); go_simp; (try with_reducible rfl))
                  rotate_left
                  simp only [Act.put, List.getElem_toArray, List.getElem_cons_zero, List.getElem_cons_succ, List.setIfInBounds_toArray, List.set_cons_zero, List.set_cons_succ]
                  refine wpAnyH_take (i := 6) (oi := _) (v := ?_) rfl (by kernel_rfl) (by kernel_rfl) (by kernel_rfl) (fun _ _ _ h => h) (Or.inl ⟨by rfl, ?_⟩) hS ?_
                  rotate_left
                  · (intro w hSw; (try dsimp only at hSw); go_simp; (try with_reducible rfl))
                  rotate_left
                  simp only [Act.put, List.getElem_toArray, List.getElem_cons_zero, List.getElem_cons_succ, List.setIfInBounds_toArray, List.set_cons_zero, List.set_cons_succ]
                  refine wpAnyH_take (i := 7) (oi := _) (v := ?_) rfl (by kernel_rfl) (by kernel_rfl) (by kernel_rfl) (fun _ _ _ h => h) (Or.inl ⟨by rfl, ?_⟩) hS ?_
                  rotate_left
                  · (intro w hSw; (try dsimp only at hSw); go_simp; (try with_reducible rfl))
                  rotate_left
                  simp only [Act.put, List.getElem_toArray, List.getElem_cons_zero, List.getElem_cons_succ, List.setIfInBounds_toArray, List.set_cons_zero, List.set_cons_succ]
                  refine wpAnyH_take (i := 8) (oi := _) (v := ?_) rfl (by kernel_rfl) (by kernel_rfl) (by kernel_rfl) (fun _ _ _ h => h) (Or.inl ⟨by rfl, ?_⟩) hS ?_
                  rotate_left
                  · (intro w hSw; have sq := run_string_bs (P := Try.prog) c5 29 9 5 Try.underlying29 Try.underlying5 Try.underlying9 hSw.2.2.2.2.2.2.2.1; (try dsimp only at hSw); go_simp; (try with_reducible rfl))
                  rotate_left
                  try simp only [Act.put, List.getElem_toArray, List.getElem_cons_zero, List.getElem_cons_succ, List.setIfInBounds_toArray, List.set_cons_zero, List.set_cons_succ]
                  refine wpAnyH_take (i := 9) (oi := _) (v := ?_) rfl (by kernel_rfl) (by kernel_rfl) (by kernel_rfl) (fun _ _ _ h => h) (Or.inl ⟨by rfl, ?_⟩) hS ?_
                  rotate_left
                  · (intro w hSw; (try dsimp only at hSw); go_simp; (try with_reducible rfl))
                  rotate_left
                  simp only [Act.put, List.getElem_toArray, List.getElem_cons_zero, List.getElem_cons_succ, List.setIfInBounds_toArray, List.set_cons_zero, List.set_cons_succ]
                  refine wpAnyH_take (i := 10) (oi := _) (v := ?_) rfl (by kernel_rfl) (by kernel_rfl) (by kernel_rfl) (fun _ _ _ h => h) (Or.inl ⟨by rfl, ?_⟩) hS ?_
                  rotate_left
                  · (intro w hSw; (try dsimp only at hSw); go_simp; (try with_reducible rfl))
                  rotate_left
                  simp only [Act.put, List.getElem_toArray, List.getElem_cons_zero, List.getElem_cons_succ, List.setIfInBounds_toArray, List.set_cons_zero, List.set_cons_succ]
                  refine wpAnyH_take (i := 11) (oi := _) (v := ?_) rfl (by kernel_rfl) (by kernel_rfl) (by kernel_rfl) (fun _ _ _ h => h) (Or.inl ⟨by rfl, ?_⟩) hS ?_
                  rotate_left
                  · (intro w hSw; (try dsimp only at hSw); go_simp; (try with_reducible rfl))
                  rotate_left
                  simp only [Act.put, List.getElem_toArray, List.getElem_cons_zero, List.getElem_cons_succ, List.setIfInBounds_toArray, List.set_cons_zero, List.set_cons_succ]
                  refine wpAnyH_take (i := 12) (oi := _) (v := ?_) rfl (by kernel_rfl) (by kernel_rfl) (by kernel_rfl) (fun _ _ _ h => h) (Or.inl ⟨by rfl, ?_⟩) hS ?_
                  rotate_left
                  · (intro w hSw; (try dsimp only at hSw); go_simp; (try with_reducible rfl))
                  rotate_left
                  simp only [Act.put, List.getElem_toArray, List.getElem_cons_zero, List.getElem_cons_succ, List.setIfInBounds_toArray, List.set_cons_zero, List.set_cons_succ]
                  refine wpAnyH_take (i := 13) (oi := _) (v := ?_) rfl (by kernel_rfl) (by kernel_rfl) (by kernel_rfl) (fun _ _ _ h => h) (Or.inl ⟨by rfl, ?_⟩) hS ?_
                  rotate_left
                  · (intro w hSw; (try dsimp only at hSw); go_simp; (try with_reducible rfl))
                  rotate_left
                  simp only [Act.put, List.getElem_toArray, List.getElem_cons_zero, List.getElem_cons_succ, List.setIfInBounds_toArray, List.set_cons_zero, List.set_cons_succ]
                  refine wpAnyH_take (i := 14) (oi := _) (v := ?_) rfl (by kernel_rfl) (by kernel_rfl) (by kernel_rfl) (fun _ _ _ h => h) (Or.inl ⟨by rfl, ?_⟩) hS ?_
                  rotate_left
                  · (intro w hSw; (try dsimp only at hSw); go_simp; (try with_reducible rfl))
                  rotate_left
                  simp only [Act.put, List.getElem_toArray, List.getElem_cons_zero, List.getElem_cons_succ, List.setIfInBounds_toArray, List.set_cons_zero, List.set_cons_succ]
                  refine wpAnyH_take (i := 15) (oi := _) (v := ?_) rfl (by kernel_rfl) (by kernel_rfl) (by kernel_rfl) (fun _ _ _ h => h) (Or.inl ⟨by rfl, ?_⟩) hS ?_
                  rotate_left
                  · (intro w hSw; (try dsimp only at hSw); go_simp; (try with_reducible rfl))
                  rotate_left
                  simp only [Act.put, List.getElem_toArray, List.getElem_cons_zero, List.getElem_cons_succ, List.setIfInBounds_toArray, List.set_cons_zero, List.set_cons_succ]
                  refine wpAnyH_take (i := 16) (oi := _) (v := ?_) rfl (by kernel_rfl) (by kernel_rfl) (by kernel_rfl) (fun _ _ _ h => h) (Or.inl ⟨by rfl, ?_⟩) hS ?_
                  rotate_left
                  · (intro w hSw; (try dsimp only at hSw); go_simp; (try with_reducible rfl))
                  rotate_left
                  simp only [Act.put, List.getElem_toArray, List.getElem_cons_zero, List.getElem_cons_succ, List.setIfInBounds_toArray, List.set_cons_zero, List.set_cons_succ]
                  refine wpAnyH_take (i := 17) (oi := _) (v := ?_) rfl (by kernel_rfl) (by kernel_rfl) (by kernel_rfl) (fun _ _ _ h => h) (Or.inl ⟨by rfl, ?_⟩) hS ?_
                  rotate_left
                  · (intro w hSw; have sq := run_string_bs (P := Try.prog) c6 29 9 5 Try.underlying29 Try.underlying5 Try.underlying9 hSw.2.2.2.2.2.2.2.2; (try dsimp only at hSw); go_simp; (try with_reducible rfl))
                  rotate_left
                  try simp only [Act.put, List.getElem_toArray, List.getElem_cons_zero, List.getElem_cons_succ, List.setIfInBounds_toArray, List.set_cons_zero, List.set_cons_succ]
                  refine wpAnyH_take (i := 18) (oi := _) (v := ?_) rfl (by kernel_rfl) (by kernel_rfl) (by kernel_rfl) (fun _ _ _ h => h) (Or.inl ⟨by rfl, ?_⟩) hS ?_
                  rotate_left
                  · (intro w hSw; (try dsimp only at hSw); go_simp; (try with_reducible rfl))
                  rotate_left
                  simp only [Act.put, List.getElem_toArray, List.getElem_cons_zero, List.getElem_cons_succ, List.setIfInBounds_toArray, List.set_cons_zero, List.set_cons_succ]
                  refine wpAnyH_done (by kernel_rfl) ?_ _
                  have bH := hS.1
                  clear hS HS
                  have b9 := Ext.trans b2 bH
                  go_wp2
                  go_roundw
                  case rel => exact ⟨j + 1, HLJ.out, by first | exact round_same HWJ | go_num, b9, HB'⟩
                  case measure => first | exact round_less HWJ HLJ.out | (have h := HLJ.out; simp [intOf]; omega)
                · have HS : Hid (∀ w', Below wr.heap.size wr w' → (Below wr.heap.size wr w' ∧ (∀ o, w'.cell? ⟨w.heap.size, o, none⟩ = #[.slice (some ⟨b, off, none⟩) ys.length c, .slice B gs.length d].toList[o]?) ∧ (∀ o, w'.cell? ⟨w.heap.size + 1, o, none⟩ = #[.slice (some ⟨b', off', none⟩) zs.length f, .slice F hs.length g].toList[o]?) ∧ w'.cell? ⟨b, off + k, none⟩ = some (.slice (some ⟨b5, off5, none⟩) us.length c2) ∧ w'.cell? ⟨b', off' + k, none⟩ = some (.slice (some ⟨b6, off6, none⟩) vs.length c3) ∧ w'.cell? ⟨b5, off5 + j, none⟩ = some (.slice A5 bs.length c5) ∧ w'.cell? ⟨b6, off6 + j, none⟩ = some (.slice A6 ds.length c6) ∧ Bs w' A5 bs.length bs ∧ Bs w' A6 ds.length ds)) := fun w' b => ⟨b, (P2.next b).cell, (Q2.next b).cell, (b.cell (block_lt_of_cell q4)).trans q4, (b.cell (block_lt_of_cell q5)).trans q5, (b.cell (block_lt_of_cell q6)).trans q6, (b.cell (block_lt_of_cell q7)).trans q7, HB5.out.bytes_bs.below b, HB6.out.bytes_bs.below b⟩
                  refine wp_region_held_drew (S := fun w' => Below wr.heap.size wr w' ∧ (∀ o, w'.cell? ⟨w.heap.size, o, none⟩ = #[.slice (some ⟨b, off, none⟩) ys.length c, .slice B gs.length d].toList[o]?) ∧ (∀ o, w'.cell? ⟨w.heap.size + 1, o, none⟩ = #[.slice (some ⟨b', off', none⟩) zs.length f, .slice F hs.length g].toList[o]?) ∧ w'.cell? ⟨b, off + k, none⟩ = some (.slice (some ⟨b5, off5, none⟩) us.length c2) ∧ w'.cell? ⟨b', off' + k, none⟩ = some (.slice (some ⟨b6, off6, none⟩) vs.length c3) ∧ w'.cell? ⟨b5, off5 + j, none⟩ = some (.slice A5 bs.length c5) ∧ w'.cell? ⟨b6, off6 + j, none⟩ = some (.slice A6 ds.length c6) ∧ Bs w' A5 bs.length bs ∧ Bs w' A6 ds.length ds) (by kernel_rfl) (HS.out _ (Ext.drew (Below.refl _ _))) (fun hS => ?_)
                  refine wpAnyH_take (i := 0) (oi := _) (v := ?_) rfl (by kernel_rfl) (by kernel_rfl) (by kernel_rfl) (fun _ _ _ h => h) (Or.inl ⟨by rfl, ?_⟩) hS ?_
                  rotate_left
                  · (intro w hSw; (try dsimp only at hSw); go_simp; (try with_reducible rfl))
                  rotate_left
                  simp only [Act.put, List.getElem_toArray, List.getElem_cons_zero, List.getElem_cons_succ, List.setIfInBounds_toArray, List.set_cons_zero, List.set_cons_succ]
                  refine wpAnyH_take (i := 1) (oi := _) (v := ?_) rfl (by kernel_rfl) (by kernel_rfl) (by kernel_rfl) (fun _ _ _ h => h) (Or.inl ⟨by rfl, ?_⟩) hS ?_
                  rotate_left
                  · (intro w hSw; (try dsimp only at hSw); go_simp; (try with_reducible rfl))
                  rotate_left
                  simp only [Act.put, List.getElem_toArray, List.getElem_cons_zero, List.getElem_cons_succ, List.setIfInBounds_toArray, List.set_cons_zero, List.set_cons_succ]
                  refine wpAnyH_take (i := 2) (oi := _) (v := ?_) rfl (by kernel_rfl) (by kernel_rfl) (by kernel_rfl) (fun _ _ _ h => h) (Or.inl ⟨by rfl, ?_⟩) hS ?_
                  rotate_left
                  · (intro w hSw; (try dsimp only at hSw); go_simp; (try with_reducible rfl))
                  rotate_left
                  simp only [Act.put, List.getElem_toArray, List.getElem_cons_zero, List.getElem_cons_succ, List.setIfInBounds_toArray, List.set_cons_zero, List.set_cons_succ]
                  refine wpAnyH_take (i := 3) (oi := _) (v := ?_) rfl (by kernel_rfl) (by kernel_rfl) (by kernel_rfl) (fun _ _ _ h => h) (Or.inl ⟨by rfl, ?_⟩) hS ?_
                  rotate_left
                  · (intro w hSw; (try dsimp only at hSw); go_simp; (try with_reducible rfl))
                  rotate_left
                  simp only [Act.put, List.getElem_toArray, List.getElem_cons_zero, List.getElem_cons_succ, List.setIfInBounds_toArray, List.set_cons_zero, List.set_cons_succ]
                  refine wpAnyH_take (i := 4) (oi := _) (v := ?_) rfl (by kernel_rfl) (by kernel_rfl) (by kernel_rfl) (fun _ _ _ h => h) (Or.inl ⟨by rfl, ?_⟩) hS ?_
                  rotate_left
                  · (intro w hSw; (try dsimp only at hSw); go_simp; (try with_reducible rfl))
                  rotate_left
                  simp only [Act.put, List.getElem_toArray, List.getElem_cons_zero, List.getElem_cons_succ, List.setIfInBounds_toArray, List.set_cons_zero, List.set_cons_succ]
                  refine wpAnyH_take (i := 5) (oi := _) (v := ?_) rfl (by kernel_rfl) (by kernel_rfl) (by kernel_rfl) (fun _ _ _ h => h) (Or.inl ⟨by rfl, ?_⟩) hS ?_
                  rotate_left
                  · (intro w hSw; (try dsimp only at hSw); go_simp; (try with_reducible rfl))
                  rotate_left
                  simp only [Act.put, List.getElem_toArray, List.getElem_cons_zero, List.getElem_cons_succ, List.setIfInBounds_toArray, List.set_cons_zero, List.set_cons_succ]
                  refine wpAnyH_take (i := 6) (oi := _) (v := ?_) rfl (by kernel_rfl) (by kernel_rfl) (by kernel_rfl) (fun _ _ _ h => h) (Or.inl ⟨by rfl, ?_⟩) hS ?_
                  rotate_left
                  · (intro w hSw; (try dsimp only at hSw); go_simp; (try with_reducible rfl))
                  rotate_left
                  simp only [Act.put, List.getElem_toArray, List.getElem_cons_zero, List.getElem_cons_succ, List.setIfInBounds_toArray, List.set_cons_zero, List.set_cons_succ]
                  refine wpAnyH_take (i := 7) (oi := _) (v := ?_) rfl (by kernel_rfl) (by kernel_rfl) (by kernel_rfl) (fun _ _ _ h => h) (Or.inl ⟨by rfl, ?_⟩) hS ?_
                  rotate_left
                  · (intro w hSw; (try dsimp only at hSw); go_simp; (try with_reducible rfl))
                  rotate_left
                  simp only [Act.put, List.getElem_toArray, List.getElem_cons_zero, List.getElem_cons_succ, List.setIfInBounds_toArray, List.set_cons_zero, List.set_cons_succ]
                  refine wpAnyH_take (i := 8) (oi := _) (v := ?_) rfl (by kernel_rfl) (by kernel_rfl) (by kernel_rfl) (fun _ _ _ h => h) (Or.inl ⟨by rfl, ?_⟩) hS ?_
                  rotate_left
                  · (intro w hSw; have sq := run_string_bs (P := Try.prog) c5 29 9 5 Try.underlying29 Try.underlying5 Try.underlying9 hSw.2.2.2.2.2.2.2.1; (try dsimp only at hSw); go_simp; (try with_reducible rfl))
                  rotate_left
                  try simp only [Act.put, List.getElem_toArray, List.getElem_cons_zero, List.getElem_cons_succ, List.setIfInBounds_toArray, List.set_cons_zero, List.set_cons_succ]
                  refine wpAnyH_take (i := 9) (oi := _) (v := ?_) rfl (by kernel_rfl) (by kernel_rfl) (by kernel_rfl) (fun _ _ _ h => h) (Or.inl ⟨by rfl, ?_⟩) hS ?_
                  rotate_left
                  · (intro w hSw; (try dsimp only at hSw); go_simp; (try with_reducible rfl))
                  rotate_left
                  simp only [Act.put, List.getElem_toArray, List.getElem_cons_zero, List.getElem_cons_succ, List.setIfInBounds_toArray, List.set_cons_zero, List.set_cons_succ]
                  refine wpAnyH_take (i := 10) (oi := _) (v := ?_) rfl (by kernel_rfl) (by kernel_rfl) (by kernel_rfl) (fun _ _ _ h => h) (Or.inl ⟨by rfl, ?_⟩) hS ?_
                  rotate_left
                  · (intro w hSw; (try dsimp only at hSw); go_simp; (try with_reducible rfl))
                  rotate_left
                  simp only [Act.put, List.getElem_toArray, List.getElem_cons_zero, List.getElem_cons_succ, List.setIfInBounds_toArray, List.set_cons_zero, List.set_cons_succ]
                  refine wpAnyH_take (i := 11) (oi := _) (v := ?_) rfl (by kernel_rfl) (by kernel_rfl) (by kernel_rfl) (fun _ _ _ h => h) (Or.inl ⟨by rfl, ?_⟩) hS ?_
                  rotate_left
                  · (intro w hSw; (try dsimp only at hSw); go_simp; (try with_reducible rfl))
                  rotate_left
                  simp only [Act.put, List.getElem_toArray, List.getElem_cons_zero, List.getElem_cons_succ, List.setIfInBounds_toArray, List.set_cons_zero, List.set_cons_succ]
                  refine wpAnyH_take (i := 12) (oi := _) (v := ?_) rfl (by kernel_rfl) (by kernel_rfl) (by kernel_rfl) (fun _ _ _ h => h) (Or.inl ⟨by rfl, ?_⟩) hS ?_
                  rotate_left
                  · (intro w hSw; (try dsimp only at hSw); go_simp; (try with_reducible rfl))
                  rotate_left
                  simp only [Act.put, List.getElem_toArray, List.getElem_cons_zero, List.getElem_cons_succ, List.setIfInBounds_toArray, List.set_cons_zero, List.set_cons_succ]
                  refine wpAnyH_take (i := 13) (oi := _) (v := ?_) rfl (by kernel_rfl) (by kernel_rfl) (by kernel_rfl) (fun _ _ _ h => h) (Or.inl ⟨by rfl, ?_⟩) hS ?_
                  rotate_left
                  · (intro w hSw; (try dsimp only at hSw); go_simp; (try with_reducible rfl))
                  rotate_left
                  simp only [Act.put, List.getElem_toArray, List.getElem_cons_zero, List.getElem_cons_succ, List.setIfInBounds_toArray, List.set_cons_zero, List.set_cons_succ]
                  refine wpAnyH_take (i := 14) (oi := _) (v := ?_) rfl (by kernel_rfl) (by kernel_rfl) (by kernel_rfl) (fun _ _ _ h => h) (Or.inl ⟨by rfl, ?_⟩) hS ?_
                  rotate_left
                  · (intro w hSw; (try dsimp only at hSw); go_simp; (try with_reducible rfl))
                  rotate_left
                  simp only [Act.put, List.getElem_toArray, List.getElem_cons_zero, List.getElem_cons_succ, List.setIfInBounds_toArray, List.set_cons_zero, List.set_cons_succ]
                  refine wpAnyH_take (i := 15) (oi := _) (v := ?_) rfl (by kernel_rfl) (by kernel_rfl) (by kernel_rfl) (fun _ _ _ h => h) (Or.inl ⟨by rfl, ?_⟩) hS ?_
                  rotate_left
                  · (intro w hSw; (try dsimp only at hSw); go_simp; (try with_reducible rfl))
                  rotate_left
                  simp only [Act.put, List.getElem_toArray, List.getElem_cons_zero, List.getElem_cons_succ, List.setIfInBounds_toArray, List.set_cons_zero, List.set_cons_succ]
                  refine wpAnyH_take (i := 16) (oi := _) (v := ?_) rfl (by kernel_rfl) (by kernel_rfl) (by kernel_rfl) (fun _ _ _ h => h) (Or.inl ⟨by rfl, ?_⟩) hS ?_
                  rotate_left
                  · (intro w hSw; (try dsimp only at hSw); go_simp; (try with_reducible rfl))
                  rotate_left
                  simp only [Act.put, List.getElem_toArray, List.getElem_cons_zero, List.getElem_cons_succ, List.setIfInBounds_toArray, List.set_cons_zero, List.set_cons_succ]
                  refine wpAnyH_take (i := 17) (oi := _) (v := ?_) rfl (by kernel_rfl) (by kernel_rfl) (by kernel_rfl) (fun _ _ _ h => h) (Or.inl ⟨by rfl, ?_⟩) hS ?_
                  rotate_left
                  · (intro w hSw; have sq := run_string_bs (P := Try.prog) c6 29 9 5 Try.underlying29 Try.underlying5 Try.underlying9 hSw.2.2.2.2.2.2.2.2; (try dsimp only at hSw); go_simp; (try with_reducible rfl))
                  rotate_left
                  try simp only [Act.put, List.getElem_toArray, List.getElem_cons_zero, List.getElem_cons_succ, List.setIfInBounds_toArray, List.set_cons_zero, List.set_cons_succ]
                  refine wpAnyH_take (i := 18) (oi := _) (v := ?_) rfl (by kernel_rfl) (by kernel_rfl) (by kernel_rfl) (fun _ _ _ h => h) (Or.inl ⟨by rfl, ?_⟩) hS ?_
                  rotate_left
                  · (intro w hSw; (try dsimp only at hSw); go_simp; (try with_reducible rfl))
                  rotate_left
                  simp only [Act.put, List.getElem_toArray, List.getElem_cons_zero, List.getElem_cons_succ, List.setIfInBounds_toArray, List.set_cons_zero, List.set_cons_succ]
                  refine wpAnyH_done (by kernel_rfl) ?_ _
                  have bH := hS.1
                  clear hS HS
                  have t9 := Ext.trans t3 bH
                  go_wp2
                  go_ret
                  exact ⟨YesNo.no fun h => by
                    have h9 : us = vs := HLK.out.1 (by rw [h.1]; intro _ _; rfl)
                    have h8 : bs = ds := HLJ2.out.1 (by rw [h9]; intro _ _; rfl)
                    rw [h8] at e3; simp at e3, t9⟩
              · have HA' : Hid (∀ i, i < k + 1 → LikeAt ys zs i) := by
                  intro i hi
                  by_cases h : i = k
                  · subst h
                    exact HLK.out.2 (like_all HLU.out hltj HB.out)
                  · exact HA.out i (by omega)
                go_wp2
                go_roundw
                case rel => exact ⟨k + 1, HLT.out, by first | exact round_same HWK | go_num, b3, HA'⟩
                case measure => first | exact round_less HWK HLT.out | (have h := HLT.out; simp [intOf]; omega)
        · have HYZ := Lib.hid (like_all HLY.out hlt HA.out)
          clear hk HA
          go_wp2
          clear x1 y1 P1 Q1 t1
          go_loopw [7] (fun i wr => ∃ (j : Nat), j ≤ gs.length ∧ i = .int .i64 j ∧ Below W.heap.size W wr ∧ Hid (∀ i, i < j → LikeAt gs hs i)) (fun i _ => gs.length - (intOf i).toNat)
          case atStart => exact ⟨0, by omega, rfl, b1, fun i h => absurd h (Nat.not_lt_zero _)⟩
          case round =>
            obtain ⟨j, hj, rfl, b2, HB⟩ := hrel
            clear b1
            have P2 := P0.next b2
            have Q2 := Q0.next b2
            have x2 := P2.cell
            have y2 := Q2.cell
            have t2 := Ext.trans t0 b2
            by_cases hltj : j < gs.length
            · have hltj2 : j < hs.length := by have := HLG.out; omega
              obtain ⟨b, off, Ab, cg, Am, cm, rfl, q0, q1, q2, q3, q4, q5, i0, i1, i2, rb, rm⟩ := go_at (HG.out.below b2) hltj
              obtain ⟨b', off', Eb, eg, Em, em, rfl, p0, p1, p2, p3, p4, p5, k0, k1, k2, rb', rm'⟩ := go_at (HH.out.below b2) hltj2
              have HLJ2 : Hid (LikeAt gs hs j ↔ gs[j] = hs[j]) := ⟨fun h => h hltj hltj2, fun h _ _ => h⟩
              generalize gs[j] = g1 at *
              generalize hs[j] = g2 at *
              have HWJ := next_wrap HGM.out hltj
              have HLJ := Lib.hid hltj
              have HLJJ := Lib.hid hltj2
              have HRB := Lib.hid rb
              have HRM := Lib.hid rm
              have HRB' := Lib.hid rb'
              have HRM' := Lib.hid rm'
              clear rb rm rb' rm' i0 i1 i2 k0 k1 k2 hj
              go_upto_region 16 with fail
              clear x2 y2
              have tr : Hid (∀ w', Below wr.heap.size wr w' → ∀ (p : Addr) (v : Value), wr.cell? p = some v → w'.cell? p = some v) := fun w' bb p v hv => (bb.cell (block_lt_of_cell hv)).trans hv
              have HS : Hid (∀ w', Below wr.heap.size wr w' → (Below wr.heap.size wr w' ∧ (∀ o, w'.cell? ⟨w.heap.size, o, none⟩ = #[.slice A ys.length c, .slice (some ⟨b, off, none⟩) gs.length d].toList[o]?) ∧ (∀ o, w'.cell? ⟨w.heap.size + 1, o, none⟩ = #[.slice E zs.length f, .slice (some ⟨b', off', none⟩) hs.length g].toList[o]?) ∧ (w'.cell? ⟨b, off + j * 6, none⟩ = some (.int .i64 (nuOf g1)) ∧ w'.cell? ⟨b, off + j * 6 + 1, none⟩ = some (.int .u8 ((kiOf g1).toNat : Int)) ∧ w'.cell? ⟨b, off + j * 6 + 2, none⟩ = some (.int .i64 (atOf g1)) ∧ w'.cell? ⟨b, off + j * 6 + 3, none⟩ = some (.int .i64 (manyOf g1)) ∧ w'.cell? ⟨b, off + j * 6 + 4, none⟩ = some (.slice Ab (datOf g1).length cg) ∧ w'.cell? ⟨b, off + j * 6 + 5, none⟩ = some (.slice Am (mksOf g1).length cm)) ∧ (w'.cell? ⟨b', off' + j * 6, none⟩ = some (.int .i64 (nuOf g2)) ∧ w'.cell? ⟨b', off' + j * 6 + 1, none⟩ = some (.int .u8 ((kiOf g2).toNat : Int)) ∧ w'.cell? ⟨b', off' + j * 6 + 2, none⟩ = some (.int .i64 (atOf g2)) ∧ w'.cell? ⟨b', off' + j * 6 + 3, none⟩ = some (.int .i64 (manyOf g2)) ∧ w'.cell? ⟨b', off' + j * 6 + 4, none⟩ = some (.slice Eb (datOf g2).length eg) ∧ w'.cell? ⟨b', off' + j * 6 + 5, none⟩ = some (.slice Em (mksOf g2).length em)))) := fun w' b => ⟨b, (P2.next b).cell, (Q2.next b).cell, ⟨tr.out _ b _ _ q0, tr.out _ b _ _ q1, tr.out _ b _ _ q2, tr.out _ b _ _ q3, tr.out _ b _ _ q4, tr.out _ b _ _ q5⟩, ⟨tr.out _ b _ _ p0, tr.out _ b _ _ p1, tr.out _ b _ _ p2, tr.out _ b _ _ p3, tr.out _ b _ _ p4, tr.out _ b _ _ p5⟩⟩
              refine wp_region_held_drew (S := fun w' => Below wr.heap.size wr w' ∧ (∀ o, w'.cell? ⟨w.heap.size, o, none⟩ = #[.slice A ys.length c, .slice (some ⟨b, off, none⟩) gs.length d].toList[o]?) ∧ (∀ o, w'.cell? ⟨w.heap.size + 1, o, none⟩ = #[.slice E zs.length f, .slice (some ⟨b', off', none⟩) hs.length g].toList[o]?) ∧ (w'.cell? ⟨b, off + j * 6, none⟩ = some (.int .i64 (nuOf g1)) ∧ w'.cell? ⟨b, off + j * 6 + 1, none⟩ = some (.int .u8 ((kiOf g1).toNat : Int)) ∧ w'.cell? ⟨b, off + j * 6 + 2, none⟩ = some (.int .i64 (atOf g1)) ∧ w'.cell? ⟨b, off + j * 6 + 3, none⟩ = some (.int .i64 (manyOf g1)) ∧ w'.cell? ⟨b, off + j * 6 + 4, none⟩ = some (.slice Ab (datOf g1).length cg) ∧ w'.cell? ⟨b, off + j * 6 + 5, none⟩ = some (.slice Am (mksOf g1).length cm)) ∧ (w'.cell? ⟨b', off' + j * 6, none⟩ = some (.int .i64 (nuOf g2)) ∧ w'.cell? ⟨b', off' + j * 6 + 1, none⟩ = some (.int .u8 ((kiOf g2).toNat : Int)) ∧ w'.cell? ⟨b', off' + j * 6 + 2, none⟩ = some (.int .i64 (atOf g2)) ∧ w'.cell? ⟨b', off' + j * 6 + 3, none⟩ = some (.int .i64 (manyOf g2)) ∧ w'.cell? ⟨b', off' + j * 6 + 4, none⟩ = some (.slice Eb (datOf g2).length eg) ∧ w'.cell? ⟨b', off' + j * 6 + 5, none⟩ = some (.slice Em (mksOf g2).length em))) (by kernel_rfl) (HS.out _ (Ext.drew (Below.refl _ _))) (fun hS => ?_)
              have bd : Below wr.heap.size wr wr.drew := Ext.drew (Below.refl _ _)
              generalize wr.drew = wd at *
              refine wpAnyH_take (i := 0) (oi := _) (v := ?_) rfl (by kernel_rfl) (by kernel_rfl) (by kernel_rfl) (fun _ _ _ h => h) (Or.inl ⟨by rfl, ?_⟩) hS ?_
              rotate_left
              · (intro w hSw; (try dsimp only at hSw); go_simp; (try with_reducible rfl))
              rotate_left
              simp only [Act.put, List.getElem_toArray, List.getElem_cons_zero, List.getElem_cons_succ, List.setIfInBounds_toArray, List.set_cons_zero, List.set_cons_succ]
              refine wpAnyH_take (i := 1) (oi := _) (v := ?_) rfl (by kernel_rfl) (by kernel_rfl) (by kernel_rfl) (fun _ _ _ h => h) (Or.inl ⟨by rfl, ?_⟩) hS ?_
              rotate_left
              · (intro w hSw; (try dsimp only at hSw); go_simp; (try with_reducible rfl))
              rotate_left
              simp only [Act.put, List.getElem_toArray, List.getElem_cons_zero, List.getElem_cons_succ, List.setIfInBounds_toArray, List.set_cons_zero, List.set_cons_succ]
              refine wpAnyH_take (i := 2) (oi := _) (v := ?_) rfl (by kernel_rfl) (by kernel_rfl) (by kernel_rfl) (fun _ _ _ h => h) (Or.inl ⟨by rfl, ?_⟩) hS ?_
              rotate_left
              · (intro w hSw; (try dsimp only at hSw); go_simp; (try with_reducible rfl))
              rotate_left
              simp only [Act.put, List.getElem_toArray, List.getElem_cons_zero, List.getElem_cons_succ, List.setIfInBounds_toArray, List.set_cons_zero, List.set_cons_succ]
              refine wpAnyH_take (i := 3) (oi := _) (v := ?_) rfl (by kernel_rfl) (by kernel_rfl) (by kernel_rfl) (fun _ _ _ h => h) (Or.inl ⟨by rfl, ?_⟩) hS ?_
              rotate_left
              · (intro w hSw; (try dsimp only at hSw); go_simp; (try with_reducible rfl))
              rotate_left
              simp only [Act.put, List.getElem_toArray, List.getElem_cons_zero, List.getElem_cons_succ, List.setIfInBounds_toArray, List.set_cons_zero, List.set_cons_succ]
              refine wpAnyH_take (i := 4) (oi := _) (v := ?_) rfl (by kernel_rfl) (by kernel_rfl) (by kernel_rfl) (fun _ _ _ h => h) (Or.inl ⟨by rfl, ?_⟩) hS ?_
              rotate_left
              · (intro w hSw; (try dsimp only at hSw); go_simp; (try with_reducible rfl))
              rotate_left
              simp only [Act.put, List.getElem_toArray, List.getElem_cons_zero, List.getElem_cons_succ, List.setIfInBounds_toArray, List.set_cons_zero, List.set_cons_succ]
              refine wpAnyH_take (i := 5) (oi := _) (v := ?_) rfl (by kernel_rfl) (by kernel_rfl) (by kernel_rfl) (fun _ _ _ h => h) (Or.inl ⟨by rfl, ?_⟩) hS ?_
              rotate_left
              · (intro w hSw; (try dsimp only at hSw); go_simp; (try with_reducible rfl))
              rotate_left
              simp only [Act.put, List.getElem_toArray, List.getElem_cons_zero, List.getElem_cons_succ, List.setIfInBounds_toArray, List.set_cons_zero, List.set_cons_succ]
              refine wpAnyH_take (i := 6) (oi := _) (v := ?_) rfl (by kernel_rfl) (by kernel_rfl) (by kernel_rfl) (fun _ _ _ h => h) (Or.inl ⟨by rfl, ?_⟩) hS ?_
              rotate_left
              · (intro w hSw; (try dsimp only at hSw); go_simp; (try with_reducible rfl))
              rotate_left
              simp only [Act.put, List.getElem_toArray, List.getElem_cons_zero, List.getElem_cons_succ, List.setIfInBounds_toArray, List.set_cons_zero, List.set_cons_succ]
              refine wpAnyH_take (i := 7) (oi := _) (v := ?_) rfl (by kernel_rfl) (by kernel_rfl) (by kernel_rfl) (fun _ _ _ h => h) (Or.inl ⟨by rfl, ?_⟩) hS ?_
              rotate_left
              · (intro w hSw; (try dsimp only at hSw); go_simp; (try with_reducible rfl))
              rotate_left
              simp only [Act.put, List.getElem_toArray, List.getElem_cons_zero, List.getElem_cons_succ, List.setIfInBounds_toArray, List.set_cons_zero, List.set_cons_succ]
              refine wpAnyH_take (i := 8) (oi := _) (v := ?_) rfl (by kernel_rfl) (by kernel_rfl) (by kernel_rfl) (fun _ _ _ h => h) (Or.inl ⟨by rfl, ?_⟩) hS ?_
              rotate_left
              · (intro w hSw; (try dsimp only at hSw); go_simp; (try with_reducible rfl))
              rotate_left
              simp only [Act.put, List.getElem_toArray, List.getElem_cons_zero, List.getElem_cons_succ, List.setIfInBounds_toArray, List.set_cons_zero, List.set_cons_succ]
              refine wpAnyH_take (i := 9) (oi := _) (v := ?_) rfl (by kernel_rfl) (by kernel_rfl) (by kernel_rfl) (fun _ _ _ h => h) (Or.inl ⟨by rfl, ?_⟩) hS ?_
              rotate_left
              · (intro w hSw; (try dsimp only at hSw); go_simp; (try with_reducible rfl))
              rotate_left
              simp only [Act.put, List.getElem_toArray, List.getElem_cons_zero, List.getElem_cons_succ, List.setIfInBounds_toArray, List.set_cons_zero, List.set_cons_succ]
              refine wpAnyH_ready (rs := [10, 11]) (by kernel_rfl) (by simp) ?_
              refine AllReadyH.cons rfl (fun K hK => ?_) (AllReadyH.cons rfl (fun K hK => ?_) AllReadyH.nil)
              · rw [if_pos (by rfl)]
                go_simp
                refine hK.out _ _ (HS.out _ (Ext.alloc bd (.cells #[.int .i64 0, .int .u8 0, .int .i64 0, .int .i64 0, .slice none 0 0, .slice none 0 0] 64))) (fun hS' => ?_)
                clear hK K hS
                have hS := hS'
                clear hS'
                try simp only [Act.put, List.getElem_toArray, List.getElem_cons_zero, List.getElem_cons_succ, List.setIfInBounds_toArray, List.set_cons_zero, List.set_cons_succ]
                refine wpAnyH_ready (rs := [11]) (by kernel_rfl) (by simp) ?_
                refine AllReadyH.cons rfl (fun K hK => ?_) AllReadyH.nil
                rw [if_pos (by rfl)]
                go_simp
                refine hK.out _ _ (HS.out _ (Ext.alloc (Ext.alloc bd (.cells #[.int .i64 0, .int .u8 0, .int .i64 0, .int .i64 0, .slice none 0 0, .slice none 0 0] 64)) (.cells #[.int .i64 0, .int .u8 0, .int .i64 0, .int .i64 0, .slice none 0 0, .slice none 0 0] 64))) (fun hS' => ?_)
                have bd2 := Ext.alloc (Ext.alloc bd (.cells #[.int .i64 0, .int .u8 0, .int .i64 0, .int .i64 0, .slice none 0 0, .slice none 0 0] 64)) (.cells #[.int .i64 0, .int .u8 0, .int .i64 0, .int .i64 0, .slice none 0 0, .slice none 0 0] 64)
                clear hK K hS
                have hS := hS'
                clear hS'
                try simp only [Act.put, List.getElem_toArray, List.getElem_cons_zero, List.getElem_cons_succ, List.setIfInBounds_toArray, List.set_cons_zero, List.set_cons_succ]
                have U1 := BoxOf.alloc (BoxOf.new wd #[.int .i64 0, .int .u8 0, .int .i64 0, .int .i64 0, .slice none 0 0, .slice none 0 0] 64) (.cells #[.int .i64 0, .int .u8 0, .int .i64 0, .int .i64 0, .slice none 0 0, .slice none 0 0] 64)
                have V1 := BoxOf.new' (wd.alloc (.cells #[.int .i64 0, .int .u8 0, .int .i64 0, .int .i64 0, .slice none 0 0, .slice none 0 0] 64)) (wd.heap.size + 1) #[.int .i64 0, .int .u8 0, .int .i64 0, .int .i64 0, .slice none 0 0, .slice none 0 0] 64 (by simp)
                obtain ⟨g8, hg8⟩ : ∃ z : Nat, z = wd.heap.size := ⟨_, rfl⟩
                obtain ⟨g9, hg9⟩ : ∃ z : Nat, z = wd.heap.size + 1 := ⟨_, rfl⟩
                rw [← hg9] at V1 ⊢
                rw [← hg8] at U1 ⊢
                have hne : g8 ≠ g9 := by omega
                have hlo : wr.heap.size ≤ g8 ∧ wr.heap.size ≤ g9 := by have := bd.size; omega
                generalize (wd.alloc (.cells #[.int .i64 0, .int .u8 0, .int .i64 0, .int .i64 0, .slice none 0 0, .slice none 0 0] 64)).alloc (.cells #[.int .i64 0, .int .u8 0, .int .i64 0, .int .i64 0, .slice none 0 0, .slice none 0 0] 64) = we at *
                clear hg8 hg9
                refine wpAnyH_ready (rs := [12]) (by kernel_rfl) (by simp) ?_
                refine AllReadyH.cons rfl (fun K hK => ?_) AllReadyH.nil
                rw [if_pos (by rfl)]
                have fU := U1.free
                have yU := U1.cell
                go_simp
                clear fU yU
                have U2 := set6_self U1 (.int .i64 (nuOf g1)) (.int .u8 ((kiOf g1).toNat : Int)) (.int .i64 (atOf g1)) (.int .i64 (manyOf g1)) (.slice Ab (datOf g1).length cg) (.slice Am (mksOf g1).length cm)
                have V2 := set6_else V1 hne.symm (.int .i64 (nuOf g1)) (.int .u8 ((kiOf g1).toNat : Int)) (.int .i64 (atOf g1)) (.int .i64 (manyOf g1)) (.slice Ab (datOf g1).length cg) (.slice Am (mksOf g1).length cm)
                have bd3 := set6_below bd2 hlo.1 (.int .i64 (nuOf g1)) (.int .u8 ((kiOf g1).toNat : Int)) (.int .i64 (atOf g1)) (.int .i64 (manyOf g1)) (.slice Ab (datOf g1).length cg) (.slice Am (mksOf g1).length cm)
                refine hK.out _ (set6 we g8 (.int .i64 (nuOf g1)) (.int .u8 ((kiOf g1).toNat : Int)) (.int .i64 (atOf g1)) (.int .i64 (manyOf g1)) (.slice Ab (datOf g1).length cg) (.slice Am (mksOf g1).length cm)) (HS.out _ bd3) (fun hS' => ?_)
                clear hK K hS U1 V1 bd2
                have hS := hS'
                clear hS'
                generalize set6 we g8 (.int .i64 (nuOf g1)) (.int .u8 ((kiOf g1).toNat : Int)) (.int .i64 (atOf g1)) (.int .i64 (manyOf g1)) (.slice Ab (datOf g1).length cg) (.slice Am (mksOf g1).length cm) = wf at *
                try simp only [Act.put, List.getElem_toArray, List.getElem_cons_zero, List.getElem_cons_succ, List.setIfInBounds_toArray, List.set_cons_zero, List.set_cons_succ]
                refine wpAnyH_ready (rs := [13]) (by kernel_rfl) (by simp) ?_
                refine AllReadyH.cons rfl (fun K hK => ?_) AllReadyH.nil
                rw [if_pos (by rfl)]
                have fU := V2.free
                have yU := V2.cell
                go_simp
                clear fU yU
                have V3 := set6_self V2 (.int .i64 (nuOf g2)) (.int .u8 ((kiOf g2).toNat : Int)) (.int .i64 (atOf g2)) (.int .i64 (manyOf g2)) (.slice Eb (datOf g2).length eg) (.slice Em (mksOf g2).length em)
                have U3 := set6_else U2 hne (.int .i64 (nuOf g2)) (.int .u8 ((kiOf g2).toNat : Int)) (.int .i64 (atOf g2)) (.int .i64 (manyOf g2)) (.slice Eb (datOf g2).length eg) (.slice Em (mksOf g2).length em)
                have bd4 := set6_below bd3 hlo.2 (.int .i64 (nuOf g2)) (.int .u8 ((kiOf g2).toNat : Int)) (.int .i64 (atOf g2)) (.int .i64 (manyOf g2)) (.slice Eb (datOf g2).length eg) (.slice Em (mksOf g2).length em)
                refine hK.out _ (set6 wf g9 (.int .i64 (nuOf g2)) (.int .u8 ((kiOf g2).toNat : Int)) (.int .i64 (atOf g2)) (.int .i64 (manyOf g2)) (.slice Eb (datOf g2).length eg) (.slice Em (mksOf g2).length em)) (HS.out _ bd4) (fun hS' => ?_)
                clear hK K hS hS' U2 V2 bd3
                generalize set6 wf g9 (.int .i64 (nuOf g2)) (.int .u8 ((kiOf g2).toNat : Int)) (.int .i64 (atOf g2)) (.int .i64 (manyOf g2)) (.slice Eb (datOf g2).length eg) (.slice Em (mksOf g2).length em) = wh at *
                try simp only [Act.put, List.getElem_toArray, List.getElem_cons_zero, List.getElem_cons_succ, List.setIfInBounds_toArray, List.set_cons_zero, List.set_cons_succ]
                refine wpAnyH_done (by kernel_rfl) ?_ _
                clear HS
                have P4 := P2.next bd4
                have Q4 := Q2.next bd4
                have t4 := Ext.trans t2 bd4
                have b4 := Ext.trans b2 bd4
                have HRB4 := Lib.hid (HRB.out.below bd4)
                have HRM4 := Lib.hid (HRM.out.below bd4)
                have HRB5 := Lib.hid (HRB'.out.below bd4)
                have HRM5 := Lib.hid (HRM'.out.below bd4)
                have u4 := U3.cell
                have v4 := V3.cell
                clear bd4 tr bd hlo hne q0 q1 q2 q3 q4 q5 p0 p1 p2 p3 p4 p5
                rcases Bool.eq_false_or_eq_true (nuOf g1 != nuOf g2) with e1 | e1
                · go_wp2
                  go_ret
                  exact ⟨YesNo.no fun h => by
                    have h9 : g1 = g2 := HLJ2.out.1 (by rw [h.2]; intro _ _; rfl)
                    rw [h9] at e1; simp at e1, t4⟩
                · have HS8 := Lib.hid (rsame8_any ((kiOf g1).toNat : Int) (atOf g1) (manyOf g1) Ab cg (datOf g1) ((kiOf g2).toNat : Int) (atOf g2) (manyOf g2) Eb eg (datOf g2) wh HRB4.out.bytes_bs HRB5.out.bytes_bs)
                  go_wp2_with fail
                  refine HS8.out.mono ?_
                  rintro e w5 ⟨⟨bt, rfl, hbt⟩, b5⟩
                  have HBT := Lib.hid hbt
                  have U5 := U3.next b5
                  have V5 := V3.next b5
                  have t5 := Ext.trans t4 b5
                  have b6 := Ext.trans b4 b5
                  have P6 := P4.next b5
                  have Q6 := Q4.next b5
                  have u5 := U5.cell
                  have v5 := V5.cell
                  have HRM6 := Lib.hid (HRM4.out.below b5)
                  have HRM7 := Lib.hid (HRM5.out.below b5)
                  clear hbt u4 v4 U3 V3 t4 b4 HS8 b5 P4 Q4
                  cases bt with
                  | false =>
                    go_wp2
                    go_ret
                    exact ⟨YesNo.no fun h => by
                      have h9 : g1 = g2 := HLJ2.out.1 (by rw [h.2]; intro _ _; rfl)
                      have h8 := HBT.out.2 (by rw [h9]; exact ⟨rfl, rfl, rfl, rfl⟩)
                      exact absurd h8 (by decide), t5⟩
                  | true =>
                    rcases Bool.eq_false_or_eq_true (((mksOf g1).length : Int) != ((mksOf g2).length : Int)) with e2 | e2
                    · go_wp2
                      go_ret
                      exact ⟨YesNo.no fun h => by
                        have h9 : g1 = g2 := HLJ2.out.1 (by rw [h.2]; intro _ _; rfl)
                        rw [h9] at e2; simp at e2, t5⟩
                    · have HML : Hid ((mksOf g1).length = (mksOf g2).length) := by have h9 : ((mksOf g1).length : Int) = ((mksOf g2).length : Int) := (by simpa using e2)
                                                                                   show _ = _
                                                                                   omega
                      have HNU : Hid (nuOf g1 = nuOf g2) := by show _ = _; simpa using e1
                      have HMM := Lib.hid (mark_max HRM6.out)
                      go_wp2
                      clear u5 v5 e1 e2
                      go_loopw [10] (fun i wr => ∃ (q : Nat), q ≤ (mksOf g1).length ∧ i = .int .i64 q ∧ Below w5.heap.size w5 wr ∧ Hid (∀ i, i < q → LikeAt (mksOf g1) (mksOf g2) i)) (fun i _ => (mksOf g1).length - (intOf i).toNat)
                      case atStart => exact ⟨0, by omega, rfl, Below.refl _ _, fun i h => absurd h (Nat.not_lt_zero _)⟩
                      case round =>
                        obtain ⟨q, hq, rfl, b7, HC⟩ := hrel
                        have U6 := U5.next b7
                        have V6 := V5.next b7
                        have u6 := U6.cell
                        have v6 := V6.cell
                        have t6 := Ext.trans t5 b7
                        have b8 := Ext.trans b6 b7
                        by_cases hltq : q < (mksOf g1).length
                        · have hltq2 : q < (mksOf g2).length := by have := HML.out; omega
                          obtain ⟨b7', o7', rfl, m1, _⟩ := mark_at (HRM6.out.below b7) hltq
                          obtain ⟨b8', o8', rfl, m2, _⟩ := mark_at (HRM7.out.below b7) hltq2
                          have HLQ2 : Hid (LikeAt (mksOf g1) (mksOf g2) q ↔ (mksOf g1)[q] = (mksOf g2)[q]) := ⟨fun h => h hltq hltq2, fun h _ _ => h⟩
                          generalize (mksOf g1)[q] = z1 at *
                          generalize (mksOf g2)[q] = z2 at *
                          have HWQ := next_wrap HMM.out hltq
                          have HLQ := Lib.hid hltq
                          have HLQQ := Lib.hid hltq2
                          rcases Bool.eq_false_or_eq_true (z1 != z2) with e3 | e3
                          · go_wp2
                            go_quiet (fail)
                            go_wp2
                            go_ret
                            exact ⟨YesNo.no fun h => by
                              have h9 : g1 = g2 := HLJ2.out.1 (by rw [h.2]; intro _ _; rfl)
                              have h8 := HLQ2.out.1 (by rw [h9]; intro _ _; rfl)
                              rw [h8] at e3; simp at e3, below_drewN' t6 _⟩
                          · have HC' : Hid (∀ i, i < q + 1 → LikeAt (mksOf g1) (mksOf g2) i) := by
                              intro i hi
                              by_cases h : i = q
                              · subst h
                                exact HLQ2.out.2 (by simpa using e3)
                              · exact HC.out i (by omega)
                            go_wp2
                            go_quiet (fail)
                            go_wp2
                            go_roundw
                            case rel => exact ⟨q + 1, HLQ.out, by first | exact round_same HWQ | go_num, below_drewN' b7 _, HC'⟩
                            case measure => first | exact round_less HWQ HLQ.out | (have h := HLQ.out; simp [intOf]; omega)
                        · have HB' : Hid (∀ i, i < j + 1 → LikeAt gs hs i) := by
                            intro i hi
                            by_cases h : i = j
                            · subst h
                              obtain ⟨h1, h2, h3, h4⟩ := HBT.out.1 (by first | rfl | trivial)
                              exact HLJ2.out.2 (go_ext HNU.out (UInt8.toNat_inj.1 (by omega)) h2 h3 h4 (like_all HML.out hltq HC.out))
                            · exact HB.out i (by omega)
                          go_wp2
                          go_roundw
                          case rel => exact ⟨j + 1, HLJ.out, by first | exact round_same HWJ | go_num, b8, HB'⟩
                          case measure => first | exact round_less HWJ HLJ.out | (have h := HLJ.out; simp [intOf]; omega)
              · rw [if_pos (by rfl)]
                go_simp
                refine hK.out _ _ (HS.out _ (Ext.alloc bd (.cells #[.int .i64 0, .int .u8 0, .int .i64 0, .int .i64 0, .slice none 0 0, .slice none 0 0] 64))) (fun hS' => ?_)
                clear hK K hS
                have hS := hS'
                clear hS'
                try simp only [Act.put, List.getElem_toArray, List.getElem_cons_zero, List.getElem_cons_succ, List.setIfInBounds_toArray, List.set_cons_zero, List.set_cons_succ]
                refine wpAnyH_ready (rs := [10]) (by kernel_rfl) (by simp) ?_
                refine AllReadyH.cons rfl (fun K hK => ?_) AllReadyH.nil
                rw [if_pos (by rfl)]
                go_simp
                refine hK.out _ _ (HS.out _ (Ext.alloc (Ext.alloc bd (.cells #[.int .i64 0, .int .u8 0, .int .i64 0, .int .i64 0, .slice none 0 0, .slice none 0 0] 64)) (.cells #[.int .i64 0, .int .u8 0, .int .i64 0, .int .i64 0, .slice none 0 0, .slice none 0 0] 64))) (fun hS' => ?_)
                have bd2 := Ext.alloc (Ext.alloc bd (.cells #[.int .i64 0, .int .u8 0, .int .i64 0, .int .i64 0, .slice none 0 0, .slice none 0 0] 64)) (.cells #[.int .i64 0, .int .u8 0, .int .i64 0, .int .i64 0, .slice none 0 0, .slice none 0 0] 64)
                clear hK K hS
                have hS := hS'
                clear hS'
                try simp only [Act.put, List.getElem_toArray, List.getElem_cons_zero, List.getElem_cons_succ, List.setIfInBounds_toArray, List.set_cons_zero, List.set_cons_succ]
                have V1 := BoxOf.alloc (BoxOf.new wd #[.int .i64 0, .int .u8 0, .int .i64 0, .int .i64 0, .slice none 0 0, .slice none 0 0] 64) (.cells #[.int .i64 0, .int .u8 0, .int .i64 0, .int .i64 0, .slice none 0 0, .slice none 0 0] 64)
                have U1 := BoxOf.new' (wd.alloc (.cells #[.int .i64 0, .int .u8 0, .int .i64 0, .int .i64 0, .slice none 0 0, .slice none 0 0] 64)) (wd.heap.size + 1) #[.int .i64 0, .int .u8 0, .int .i64 0, .int .i64 0, .slice none 0 0, .slice none 0 0] 64 (by simp)
                obtain ⟨g9, hg9⟩ : ∃ z : Nat, z = wd.heap.size := ⟨_, rfl⟩
                obtain ⟨g8, hg8⟩ : ∃ z : Nat, z = wd.heap.size + 1 := ⟨_, rfl⟩
                rw [← hg8] at U1 ⊢
                rw [← hg9] at V1 ⊢
                have hne : g8 ≠ g9 := by omega
                have hlo : wr.heap.size ≤ g8 ∧ wr.heap.size ≤ g9 := by have := bd.size; omega
                generalize (wd.alloc (.cells #[.int .i64 0, .int .u8 0, .int .i64 0, .int .i64 0, .slice none 0 0, .slice none 0 0] 64)).alloc (.cells #[.int .i64 0, .int .u8 0, .int .i64 0, .int .i64 0, .slice none 0 0, .slice none 0 0] 64) = we at *
                clear hg8 hg9
                refine wpAnyH_ready (rs := [12]) (by kernel_rfl) (by simp) ?_
                refine AllReadyH.cons rfl (fun K hK => ?_) AllReadyH.nil
                rw [if_pos (by rfl)]
                have fU := U1.free
                have yU := U1.cell
                go_simp
                clear fU yU
                have U2 := set6_self U1 (.int .i64 (nuOf g1)) (.int .u8 ((kiOf g1).toNat : Int)) (.int .i64 (atOf g1)) (.int .i64 (manyOf g1)) (.slice Ab (datOf g1).length cg) (.slice Am (mksOf g1).length cm)
                have V2 := set6_else V1 hne.symm (.int .i64 (nuOf g1)) (.int .u8 ((kiOf g1).toNat : Int)) (.int .i64 (atOf g1)) (.int .i64 (manyOf g1)) (.slice Ab (datOf g1).length cg) (.slice Am (mksOf g1).length cm)
                have bd3 := set6_below bd2 hlo.1 (.int .i64 (nuOf g1)) (.int .u8 ((kiOf g1).toNat : Int)) (.int .i64 (atOf g1)) (.int .i64 (manyOf g1)) (.slice Ab (datOf g1).length cg) (.slice Am (mksOf g1).length cm)
                refine hK.out _ (set6 we g8 (.int .i64 (nuOf g1)) (.int .u8 ((kiOf g1).toNat : Int)) (.int .i64 (atOf g1)) (.int .i64 (manyOf g1)) (.slice Ab (datOf g1).length cg) (.slice Am (mksOf g1).length cm)) (HS.out _ bd3) (fun hS' => ?_)
                clear hK K hS U1 V1 bd2
                have hS := hS'
                clear hS'
                generalize set6 we g8 (.int .i64 (nuOf g1)) (.int .u8 ((kiOf g1).toNat : Int)) (.int .i64 (atOf g1)) (.int .i64 (manyOf g1)) (.slice Ab (datOf g1).length cg) (.slice Am (mksOf g1).length cm) = wf at *
                try simp only [Act.put, List.getElem_toArray, List.getElem_cons_zero, List.getElem_cons_succ, List.setIfInBounds_toArray, List.set_cons_zero, List.set_cons_succ]
                refine wpAnyH_ready (rs := [13]) (by kernel_rfl) (by simp) ?_
                refine AllReadyH.cons rfl (fun K hK => ?_) AllReadyH.nil
                rw [if_pos (by rfl)]
                have fU := V2.free
                have yU := V2.cell
                go_simp
                clear fU yU
                have V3 := set6_self V2 (.int .i64 (nuOf g2)) (.int .u8 ((kiOf g2).toNat : Int)) (.int .i64 (atOf g2)) (.int .i64 (manyOf g2)) (.slice Eb (datOf g2).length eg) (.slice Em (mksOf g2).length em)
                have U3 := set6_else U2 hne (.int .i64 (nuOf g2)) (.int .u8 ((kiOf g2).toNat : Int)) (.int .i64 (atOf g2)) (.int .i64 (manyOf g2)) (.slice Eb (datOf g2).length eg) (.slice Em (mksOf g2).length em)
                have bd4 := set6_below bd3 hlo.2 (.int .i64 (nuOf g2)) (.int .u8 ((kiOf g2).toNat : Int)) (.int .i64 (atOf g2)) (.int .i64 (manyOf g2)) (.slice Eb (datOf g2).length eg) (.slice Em (mksOf g2).length em)
                refine hK.out _ (set6 wf g9 (.int .i64 (nuOf g2)) (.int .u8 ((kiOf g2).toNat : Int)) (.int .i64 (atOf g2)) (.int .i64 (manyOf g2)) (.slice Eb (datOf g2).length eg) (.slice Em (mksOf g2).length em)) (HS.out _ bd4) (fun hS' => ?_)
                clear hK K hS hS' U2 V2 bd3
                generalize set6 wf g9 (.int .i64 (nuOf g2)) (.int .u8 ((kiOf g2).toNat : Int)) (.int .i64 (atOf g2)) (.int .i64 (manyOf g2)) (.slice Eb (datOf g2).length eg) (.slice Em (mksOf g2).length em) = wh at *
                try simp only [Act.put, List.getElem_toArray, List.getElem_cons_zero, List.getElem_cons_succ, List.setIfInBounds_toArray, List.set_cons_zero, List.set_cons_succ]
                refine wpAnyH_done (by kernel_rfl) ?_ _
                clear HS
                have P4 := P2.next bd4
                have Q4 := Q2.next bd4
                have t4 := Ext.trans t2 bd4
                have b4 := Ext.trans b2 bd4
                have HRB4 := Lib.hid (HRB.out.below bd4)
                have HRM4 := Lib.hid (HRM.out.below bd4)
                have HRB5 := Lib.hid (HRB'.out.below bd4)
                have HRM5 := Lib.hid (HRM'.out.below bd4)
                have u4 := U3.cell
                have v4 := V3.cell
                clear bd4 tr bd hlo hne q0 q1 q2 q3 q4 q5 p0 p1 p2 p3 p4 p5
                rcases Bool.eq_false_or_eq_true (nuOf g1 != nuOf g2) with e1 | e1
                · go_wp2
                  go_ret
                  exact ⟨YesNo.no fun h => by
                    have h9 : g1 = g2 := HLJ2.out.1 (by rw [h.2]; intro _ _; rfl)
                    rw [h9] at e1; simp at e1, t4⟩
                · have HS8 := Lib.hid (rsame8_any ((kiOf g1).toNat : Int) (atOf g1) (manyOf g1) Ab cg (datOf g1) ((kiOf g2).toNat : Int) (atOf g2) (manyOf g2) Eb eg (datOf g2) wh HRB4.out.bytes_bs HRB5.out.bytes_bs)
                  go_wp2_with fail
                  refine HS8.out.mono ?_
                  rintro e w5 ⟨⟨bt, rfl, hbt⟩, b5⟩
                  have HBT := Lib.hid hbt
                  have U5 := U3.next b5
                  have V5 := V3.next b5
                  have t5 := Ext.trans t4 b5
                  have b6 := Ext.trans b4 b5
                  have P6 := P4.next b5
                  have Q6 := Q4.next b5
                  have u5 := U5.cell
                  have v5 := V5.cell
                  have HRM6 := Lib.hid (HRM4.out.below b5)
                  have HRM7 := Lib.hid (HRM5.out.below b5)
                  clear hbt u4 v4 U3 V3 t4 b4 HS8 b5 P4 Q4
                  cases bt with
                  | false =>
                    go_wp2
                    go_ret
                    exact ⟨YesNo.no fun h => by
                      have h9 : g1 = g2 := HLJ2.out.1 (by rw [h.2]; intro _ _; rfl)
                      have h8 := HBT.out.2 (by rw [h9]; exact ⟨rfl, rfl, rfl, rfl⟩)
                      exact absurd h8 (by decide), t5⟩
                  | true =>
                    rcases Bool.eq_false_or_eq_true (((mksOf g1).length : Int) != ((mksOf g2).length : Int)) with e2 | e2
                    · go_wp2
                      go_ret
                      exact ⟨YesNo.no fun h => by
                        have h9 : g1 = g2 := HLJ2.out.1 (by rw [h.2]; intro _ _; rfl)
                        rw [h9] at e2; simp at e2, t5⟩
                    · have HML : Hid ((mksOf g1).length = (mksOf g2).length) := by have h9 : ((mksOf g1).length : Int) = ((mksOf g2).length : Int) := (by simpa using e2)
                                                                                   show _ = _
                                                                                   omega
                      have HNU : Hid (nuOf g1 = nuOf g2) := by show _ = _; simpa using e1
                      have HMM := Lib.hid (mark_max HRM6.out)
                      go_wp2
                      clear u5 v5 e1 e2
                      go_loopw [10] (fun i wr => ∃ (q : Nat), q ≤ (mksOf g1).length ∧ i = .int .i64 q ∧ Below w5.heap.size w5 wr ∧ Hid (∀ i, i < q → LikeAt (mksOf g1) (mksOf g2) i)) (fun i _ => (mksOf g1).length - (intOf i).toNat)
                      case atStart => exact ⟨0, by omega, rfl, Below.refl _ _, fun i h => absurd h (Nat.not_lt_zero _)⟩
                      case round =>
                        obtain ⟨q, hq, rfl, b7, HC⟩ := hrel
                        have U6 := U5.next b7
                        have V6 := V5.next b7
                        have u6 := U6.cell
                        have v6 := V6.cell
                        have t6 := Ext.trans t5 b7
                        have b8 := Ext.trans b6 b7
                        by_cases hltq : q < (mksOf g1).length
                        · have hltq2 : q < (mksOf g2).length := by have := HML.out; omega
                          obtain ⟨b7', o7', rfl, m1, _⟩ := mark_at (HRM6.out.below b7) hltq
                          obtain ⟨b8', o8', rfl, m2, _⟩ := mark_at (HRM7.out.below b7) hltq2
                          have HLQ2 : Hid (LikeAt (mksOf g1) (mksOf g2) q ↔ (mksOf g1)[q] = (mksOf g2)[q]) := ⟨fun h => h hltq hltq2, fun h _ _ => h⟩
                          generalize (mksOf g1)[q] = z1 at *
                          generalize (mksOf g2)[q] = z2 at *
                          have HWQ := next_wrap HMM.out hltq
                          have HLQ := Lib.hid hltq
                          have HLQQ := Lib.hid hltq2
                          rcases Bool.eq_false_or_eq_true (z1 != z2) with e3 | e3
                          · go_wp2
                            go_quiet (fail)
                            go_wp2
                            go_ret
                            exact ⟨YesNo.no fun h => by
                              have h9 : g1 = g2 := HLJ2.out.1 (by rw [h.2]; intro _ _; rfl)
                              have h8 := HLQ2.out.1 (by rw [h9]; intro _ _; rfl)
                              rw [h8] at e3; simp at e3, below_drewN' t6 _⟩
                          · have HC' : Hid (∀ i, i < q + 1 → LikeAt (mksOf g1) (mksOf g2) i) := by
                              intro i hi
                              by_cases h : i = q
                              · subst h
                                exact HLQ2.out.2 (by simpa using e3)
                              · exact HC.out i (by omega)
                            go_wp2
                            go_quiet (fail)
                            go_wp2
                            go_roundw
                            case rel => exact ⟨q + 1, HLQ.out, by first | exact round_same HWQ | go_num, below_drewN' b7 _, HC'⟩
                            case measure => first | exact round_less HWQ HLQ.out | (have h := HLQ.out; simp [intOf]; omega)
                        · have HB' : Hid (∀ i, i < j + 1 → LikeAt gs hs i) := by
                            intro i hi
                            by_cases h : i = j
                            · subst h
                              obtain ⟨h1, h2, h3, h4⟩ := HBT.out.1 (by first | rfl | trivial)
                              exact HLJ2.out.2 (go_ext HNU.out (UInt8.toNat_inj.1 (by omega)) h2 h3 h4 (like_all HML.out hltq HC.out))
                            · exact HB.out i (by omega)
                          go_wp2
                          go_roundw
                          case rel => exact ⟨j + 1, HLJ.out, by first | exact round_same HWJ | go_num, b8, HB'⟩
                          case measure => first | exact round_less HWJ HLJ.out | (have h := HLJ.out; simp [intOf]; omega)
            · have HGH := Lib.hid (like_all HLG.out hltj HB.out)
              go_wp2
              go_ret
              exact ⟨YesNo.yes ⟨HYZ.out, HGH.out⟩, t2⟩
end Go.Proofs.Ytclbihcggjjgaaa
