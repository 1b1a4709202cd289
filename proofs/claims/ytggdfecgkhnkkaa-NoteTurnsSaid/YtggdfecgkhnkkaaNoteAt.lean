/- Layer 11 (note): Write, whose block is new memory. -/
import Derived.Test.YtggdfecgkhnkkaaNote4
namespace Go.Proofs.Ytggdfecgkhnkkaa
open Go Go.RowKit Go.Shelf
set_option linter.unusedSimpArgs false
set_option linter.unusedVariables false
attribute [local go_sem] Oper.semAt_some

set_option maxRecDepth 100000 in
set_option maxHeartbeats 4000000 in
theorem nwrite_at (id age sq st : Nat) (b off n q : Nat) (rs : List NRec) (hi : id < 4294967296) (ha : age < 4294967296) (hs : sq < 4294967296) (hsl : ∀ r ∈ rs, r.sl < 256) (hsu : ∀ r ∈ rs, r.su < 4294967296) (hok : noteB age sq (st : Int) rs = true) (w : World) (hr : Rs w (some ⟨b, off, none⟩) n rs) :
    Calls Try.prog 11 #[.agg #[.int .u32 (id : Int), .int .u32 (age : Int), .int .u32 (sq : Int), .int .i64 (st : Int), .slice (some ⟨b, off, none⟩) n q]] w fun e w' => ∃ g, e = .returned (.tuple #[.slice (some ⟨g, 0, none⟩) 128 128, .int .i64 0]) ∧ w.heap.size ≤ g ∧ Box w' g (sealL (putsL (noteRows id age sq st rs))) ∧ Below w.heap.size w w' := by
  have hlen := hr.1
  have hhd : (1 ≤ n ∧ n ≤ 16) ∧ st < 64 := by
    unfold noteB hdB at hok
    rw [hlen, Bool.and_eq_true, decide_eq_true_eq] at hok
    omega
  obtain ⟨⟨hn1, hn2⟩, hst⟩ := hhd
  have HC := Lib.hid (fun W hW => ncheck_any id age sq (st : Int) (some ⟨b, off, none⟩) n q rs (by omega) hsl 0 (by rw [hok]; rfl) W hW)
  have HR := Lib.hid (hr.alloc (.cells #[.int .u32 (id : Int), .int .u32 (age : Int), .int .u32 (sq : Int), .int .i64 (st : Int), .slice (some ⟨b, off, none⟩) n q] 25))
  have W1 : Hid (wrap64 (id : Int) = id) := Lib.hid (IntWalk.wrap64_in _ (by omega))
  have W2 : Hid (wrap64 (age : Int) = age) := Lib.hid (IntWalk.wrap64_in _ (by omega))
  have W3 : Hid (wrap64 (sq : Int) = sq) := Lib.hid (IntWalk.wrap64_in _ (by omega))
  have HB1 := Lib.hid (And.intro hi (And.intro ha hs))
  have HRW := Lib.hid hr
  clear hok hr hi ha hs
  refine (callsIn_wide (n := 3)).1 ?_
  refine callsIn_of_wp_marks Try.func11 rfl trivial ?_ rfl
  simp only [Try.ntmps11, List.size_toArray, List.length_cons, List.length_nil, Nat.reduceAdd, Nat.reduceSub, Array.replicate_succ, Array.replicate_zero, List.push_toArray, List.append_toArray, List.nil_append, List.cons_append]
  have t0 := Ext.alloc (Below.refl w.heap.size w) (.cells #[.int .u32 (id : Int), .int .u32 (age : Int), .int .u32 (sq : Int), .int .i64 (st : Int), .slice (some ⟨b, off, none⟩) n q] 25)
  have A0 := BoxOf.new w #[.int .u32 (id : Int), .int .u32 (age : Int), .int .u32 (sq : Int), .int .i64 (st : Int), .slice (some ⟨b, off, none⟩) n q] 25
  gi_wp2_with fail
  refine ⟨trivial, (callsIn_wide.2 (HC.out _ HR.out)).mono ?_⟩
  rintro e w1 ⟨rfl, b1⟩
  have t1 := Ext.trans t0 b1
  have A1 := A0.next b1
  have R1 := Lib.hid (HR.out.below b1)
  clear A0 t0 b1 HR
  gi_wp2_with fail
  refine ⟨trivial, (callsIn_wide.2 (nput_int none 0 0 [] (.inl rfl) 0 1 (some ⟨w1.heap.size, 0, none⟩) 1 1 [78] 0 1 rfl rfl (by decide) (by decide) (by decide) (by decide) _ (Bs.nil _ _) (Is.new w1.heap.size rfl _ _ 1 [78] rfl rfl))).mono ?_⟩
  rintro e w2 ⟨g2, rfl, hg2, HB2, b2⟩
  have A2 := ((A1.alloc (.cells #[.int .i64 78] 3)).next b2).alloc (.cells #[.slice (some ⟨g2, 0, none⟩) 128 128] 32)
  have t2 := Ext.alloc (Ext.trans (Ext.alloc t1 (.cells #[.int .i64 78] 3)) b2) (.cells #[.slice (some ⟨g2, 0, none⟩) 128 128] 32)
  have R2 := Lib.hid (((R1.out.alloc (.cells #[.int .i64 78] 3)).below b2).alloc (.cells #[.slice (some ⟨g2, 0, none⟩) 128 128] 32))
  have B2 := BoxOf.new w2 #[.slice (some ⟨g2, 0, none⟩) 128 128] 32
  have hb2 := HB2.bs.alloc (.cells #[.slice (some ⟨g2, 0, none⟩) 128 128] 32)
  have hlt2 : g2 < w2.heap.size := HB2.lt
  have ha2 : w.heap.size < w2.heap.size := Nat.lt_of_lt_of_le A1.lt (Nat.le_trans (by simp) b2.size)
  clear A1 t1 b2 R1 HB2
  obtain ⟨gb, hgb⟩ : ∃ gb : Nat, gb = w2.heap.size := ⟨_, rfl⟩
  rw [← hgb] at B2 hlt2 ha2
  have x2 := A2.cell
  have y2 := B2.cell
  gi_wp2_with fail
  rw [W1.out, W2.out, W3.out, ← hgb]
  have z2 : (w2.alloc (.cells #[.slice (some ⟨g2, 0, none⟩) 128 128] 32)).heap.size = gb + 1 := by simp [hgb]
  generalize w2.alloc (.cells #[.slice (some ⟨g2, 0, none⟩) 128 128] 32) = V2 at *
  clear hgb hg2
  refine ⟨trivial, (callsIn_wide.2 (nput_int (some ⟨g2, 0, none⟩) 128 128 _ (.inr rfl) 1 4 (some ⟨gb + 1, 0, none⟩) 3 3 [id, age, sq] 1 4 rfl rfl (by decide) (by decide) (by decide) (by simpa using HB1.out) _ (hb2.alloc _) (Is.new (gb + 1) z2.symm _ _ 3 [id, age, sq] rfl rfl))).mono ?_⟩
  rintro e w3 ⟨g3, rfl, hg3, HB3, b3⟩
  have A3 := ((A2.alloc (.cells #[.int .i64 (id : Int), .int .i64 (age : Int), .int .i64 (sq : Int)] 3)).next b3)
  have B3 := ((B2.alloc (.cells #[.int .i64 (id : Int), .int .i64 (age : Int), .int .i64 (sq : Int)] 3)).next b3)
  have t3 := Ext.trans (Ext.alloc t2 (.cells #[.int .i64 (id : Int), .int .i64 (age : Int), .int .i64 (sq : Int)] 3)) b3
  have hgl3 : gb < g3 := Nat.lt_of_lt_of_le (show gb < _ by simp [z2]; omega) hg3
  have y3 := B3.cell
  have f3 := B3.free
  clear A2 B2 t2 b3 R2 x2 y2 hb2 hg3 z2 hlt2
  have A4 := nbox_else A3 (show w.heap.size ≠ gb by omega) 0 (.slice (some ⟨g3, 0, none⟩) 128 128)
  have B4 := nbox_set B3 (.slice (some ⟨g3, 0, none⟩) 128 128)
  have H4 : Box (w3.setCell ⟨gb, 0, none⟩ (.slice (some ⟨g3, 0, none⟩) 128 128)) g3 _ := ⟨nbox_else HB3.1 (show g3 ≠ gb by omega) 0 (.slice (some ⟨g3, 0, none⟩) 128 128), HB3.2⟩
  have t4 := Below.setCell (p := ⟨gb, 0, none⟩) t3 (show w.heap.size ≤ gb by omega) (.slice (some ⟨g3, 0, none⟩) 128 128)
  have x4 := A4.cell
  have y4 := B4.cell
  gi_wp2_with fail
  obtain ⟨gz, hgz⟩ : ∃ gz : Nat, gz = w3.heap.size := ⟨_, rfl⟩
  have z4 : gz = (w3.setCell ⟨gb, 0, none⟩ (.slice (some ⟨g3, 0, none⟩) 128 128)).heap.size := by rw [hgz]; simp [World.setCell]
  rw [← hgz]
  clear hgz
  generalize w3.setCell ⟨gb, 0, none⟩ (.slice (some ⟨g3, 0, none⟩) 128 128) = V4 at *
  clear A3 B3 t3 HB3 y3 f3
  have hb4 := H4.bs
  have hgV4 : gb < V4.heap.size := B4.lt
  refine ⟨trivial, (callsIn_wide.2 (nput_int (some ⟨g3, 0, none⟩) 128 128 _ (.inr rfl) 13 1 (some ⟨gz, 0, none⟩) 2 2 [st, n] 13 1 rfl rfl (by decide) (by decide) (by decide) (by simp; omega) _ (hb4.alloc _) (Is.new gz z4 _ _ 2 [st, n] rfl rfl))).mono ?_⟩
  rintro e w5 ⟨g5, rfl, hg5, HB5, b5⟩
  have A5 := ((A4.alloc (.cells #[.int .i64 (st : Int), .int .i64 (n : Int)] 3)).next b5)
  have B5 := ((B4.alloc (.cells #[.int .i64 (st : Int), .int .i64 (n : Int)] 3)).next b5)
  have t5 := Ext.trans (Ext.alloc t4 (.cells #[.int .i64 (st : Int), .int .i64 (n : Int)] 3)) b5
  have hgl5 : gb < g5 := Nat.lt_of_lt_of_le (show gb < _ by simp; omega) hg5
  have y5 := B5.cell
  have f5 := B5.free
  have A6 := nbox_else A5 (show w.heap.size ≠ gb by omega) 0 (.slice (some ⟨g5, 0, none⟩) 128 128)
  have B6 := nbox_set B5 (.slice (some ⟨g5, 0, none⟩) 128 128)
  have H6 : Box (w5.setCell ⟨gb, 0, none⟩ (.slice (some ⟨g5, 0, none⟩) 128 128)) g5 _ := ⟨nbox_else HB5.1 (show g5 ≠ gb by omega) 0 (.slice (some ⟨g5, 0, none⟩) 128 128), HB5.2⟩
  have t6 := Below.setCell (p := ⟨gb, 0, none⟩) t5 (show w.heap.size ≤ gb by omega) (.slice (some ⟨g5, 0, none⟩) 128 128)
  have x6 := A6.cell
  have y6 := B6.cell
  clear A4 B4 H4 t4 x4 y4 hb4 hgV4 b5 hg5 hgl3
  gi_wp2_with fail
  generalize w5.setCell ⟨gb, 0, none⟩ (.slice (some ⟨g5, 0, none⟩) 128 128) = V6 at *
  clear A5 B5 t5 HB5 y5 f5
  have hcont := hdRows_put id age sq st n
  rw [hcont] at H6
  clear hcont
  refine ⟨trivial, (places_in Fence.wide 2 trivial rfl n V6).mono ?_⟩
  rintro e w7 ⟨rfl, rfl⟩
  gi_wp2_with fail
  obtain ⟨gx, hgx⟩ : ∃ gx : Nat, gx = V6.heap.size := ⟨_, rfl⟩
  have A7 := A6.alloc (.cells #[.int .i64 (n : Int)] 3)
  have B7 := B6.alloc (.cells #[.int .i64 (n : Int)] 3)
  have X7 := BoxOf.new' V6 gx #[.int .i64 (n : Int)] 3 hgx
  have H7 : Box (V6.alloc (.cells #[.int .i64 (n : Int)] 3)) g5 _ := ⟨BoxOf.alloc H6.1 _, H6.2⟩
  have t7 := Ext.alloc t6 (.cells #[.int .i64 (n : Int)] 3)
  have lgx : gb < gx := by rw [hgx]; exact B6.lt
  have lax : w.heap.size < gx := by rw [hgx]; exact A6.lt
  have lgx5 : g5 ≠ gx := by have := H6.lt; rw [hgx]; omega
  rw [← hgx]
  clear A6 B6 H6 t6 x6 y6 hgx
  generalize V6.alloc (.cells #[.int .i64 (n : Int)] 3) = V7 at *
  have hgx7 : gx < V7.heap.size := X7.lt
  refine places_loop (m := n) (gx := gx) UPD rfl (places_stops Fence.wide (3 - 1) trivial rfl (by decide) gx n (by omega) V7 hgx7 ((BoxOf.cell X7 0).trans rfl)) rfl
    (fun pre W => (BoxOf W w.heap.size #[.int .u32 (id : Int), .int .u32 (age : Int), .int .u32 (sq : Int), .int .i64 (st : Int), .slice (some ⟨b, off, none⟩) n q] 25 ∧ BoxOf W gx #[.int .i64 (n : Int)] 3 ∧ ∃ g, gb < g ∧ BoxOf W gb #[.slice (some ⟨g, 0, none⟩) 128 128] 32 ∧ Box W g (putAll (putsL (hdRows id age sq st n)) (pre.flatMap (recAt' rs n hlen)))) ∧ Below w.heap.size w W)
    (fun _ _ _ => False) ?own (fun _ _ _ _ _ hs _ _ => hs) ⟨⟨A7, X7, g5, by omega, B7, by simpa [putAll] using H7⟩, t7⟩ ?assign ?body ?done ?stop
  case own =>
    rintro pre W W' row ⟨⟨h1, h2, g, hg, h3, h4, h5⟩, h6⟩ hgr hr
    exact ⟨⟨own_box h1 hgr hr, own_box h2 hgr hr, g, hg, own_box h3 hgr hr, own_box h4 hgr hr, h5⟩, h6.grown hgr h6.size (fun k e => by have := (hr k e).1; omega)⟩
  case assign =>
    intro l x W K hK
    gi_wp2
    simpa [UPD, encP] using hK
  case stop =>
    rintro D c pre W _ _ h _
    exact h.elim
  case body =>
    rintro l pre x W ⟨⟨hA, hX, g, hg, hB, hH⟩, hbw⟩ hlt
    simp only [UPD, encP, List.setIfInBounds_toArray, List.set_cons_zero, List.set_cons_succ, Array.getD_eq_getD_getElem?, List.getElem?_toArray, List.getElem?_cons_zero, List.getElem?_cons_succ, Option.getD_some]
    have hW := HRW.out.below hbw
    have hxl : x.val < rs.length := by rw [hlen]; exact x.isLt
    obtain ⟨b', off', hAe, hc⟩ := hW.cells (by omega)
    injection hAe with hAe
    injection hAe with e1 e2
    subst e1 e2
    obtain ⟨q0, q1, q2⟩ := hc x.val hxl
    have s8 := hsl _ (List.getElem_mem hxl)
    have s9 := hsu _ (List.getElem_mem hxl)
    have hrow : recAt' rs n hlen x = [(rs[x.val].sl, 15 + 6 * x.val, 1), (bareN rs[x.val].ba, 15 + 6 * x.val + 1, 1), (rs[x.val].su, 15 + 6 * x.val + 2, 4)] := rfl
    have hrow2 := hrow.trans (nrows3 _ _ _ _)
    have HROW := Lib.hid hrow2
    clear hrow hrow2 hc hW
    have hx16 : x.val < n := x.isLt
    generalize rs[x.val].sl = sl at *
    generalize rs[x.val].ba = ba at *
    generalize rs[x.val].su = su at *
    generalize hxk : x.val = k at *
    have xA := hA.cell
    have A1 := hA.alloc (.cells #[.int .u8 (sl : Int), .bool ba, .int .u32 (su : Int)] 27)
    have hfin := wrows (F := recAt' rs n hlen) (pre := pre) (x := x) (putsL (hdRows id age sq st n)) HROW.out
    have HFIN := Lib.hid hfin
    clear hfin
    cases ba
    · gi_wp2
      have hx2 : ∀ y ∈ [sl, bareN false], y < 256 ^ 1 := by simp [bareN]; omega
      have hx1 : ∀ y ∈ [su], y < 256 ^ 4 := by simp; omega
      have HX2 := Lib.hid hx2
      have HX1 := Lib.hid hx1
      clear hx2 hx1
      obtain ⟨gr, hgr⟩ : ∃ z : Nat, z = W.heap.size := ⟨_, rfl⟩
      have B1 := hB.alloc (.cells #[.int .u8 (sl : Int), .bool false, .int .u32 (su : Int)] 27)
      have R1 := BoxOf.new' W gr #[.int .u8 (sl : Int), .bool false, .int .u32 (su : Int)] 27 hgr
      have H1 : Box (W.alloc (.cells #[.int .u8 (sl : Int), .bool false, .int .u32 (su : Int)] 27)) g _ := ⟨BoxOf.alloc hH.1 _, hH.2⟩
      have t1 := Ext.alloc (Below.refl W.heap.size W) (.cells #[.int .u8 (sl : Int), .bool false, .int .u32 (su : Int)] 27)
      have lgr : gb < gr := by rw [hgr]; exact hB.lt
      rw [← hgr]
      generalize W.alloc (.cells #[.int .u8 (sl : Int), .bool false, .int .u32 (su : Int)] 27) = W1 at *
      have q5 : IntKind.i64.wrap (sl : Int) = (sl : Int) := i64_fit (by omega)
      have q6 : IntKind.i64.wrap (su : Int) = (su : Int) := IntWalk.i64_in _ (by omega)
      have q7 : IntKind.i64.wrap (15 + 6 * (k : Int) + 2) = 15 + 6 * (k : Int) + 2 := i64_fit (by omega)
      refine region_inRound (by kernel_rfl) (by kernel_rfl) (S := fun w' => BoxOf w' gr #[.int .u8 (sl : Int), .bool false, .int .u32 (su : Int)] 27 ∧ ∀ o, w'.cell? ⟨gr, o, none⟩ = (#[.int .u8 (sl : Int), .bool false, .int .u32 (su : Int)] : Array Value).toList[o]?) ⟨BoxOf.drew R1, (BoxOf.drew R1).cell⟩ (fun hS => ?_)
      have BBx := BoxOf.drew B1
      have HBx : Box W1.drew g _ := ⟨BoxOf.drew H1.1, H1.2⟩
      have t := Ext.drew t1
      clear B1 H1 R1 t1 hgr
      generalize W1.drew = v at *
      refine wpAnyH_take (i := 1) (oi := _) (v := ?_) rfl (by kernel_rfl) (by kernel_rfl) (by kernel_rfl) (fun _ _ _ h => h) (Or.inl ⟨by rfl, ?_⟩) hS ?_
      rotate_left
      · (intro w hSw; (try dsimp only at hSw); go_simp; (try with_reducible rfl))
      rotate_left
      simp only [Act.put, List.getElem_toArray, List.getElem_cons_zero, List.getElem_cons_succ, List.setIfInBounds_toArray, List.set_cons_zero, List.set_cons_succ]
      refine wpAnyH_take (i := 2) (oi := _) (v := ?_) rfl (by kernel_rfl) (by kernel_rfl) (by kernel_rfl) (fun _ _ _ h => h) (Or.inl ⟨by rfl, ?_⟩) hS ?_
      rotate_left
      · (intro w hSw; (try dsimp only at hSw); go_simp; (try with_reducible rfl))
      rotate_left
      simp only [Act.put, List.getElem_toArray, List.getElem_cons_zero, List.getElem_cons_succ, List.setIfInBounds_toArray, List.set_cons_zero, List.set_cons_succ]
      refine wpAnyH_take (i := 3) (oi := _) (v := ?_) rfl (by kernel_rfl) (by kernel_rfl) (by kernel_rfl) (fun _ _ _ h => h) (Or.inl ⟨by rfl, ?_⟩) hS ?_
      rotate_left
      · (intro w hSw; (try dsimp only at hSw); go_simp; (try with_reducible rfl))
      rotate_left
      simp only [Act.put, List.getElem_toArray, List.getElem_cons_zero, List.getElem_cons_succ, List.setIfInBounds_toArray, List.set_cons_zero, List.set_cons_succ]
      refine wpAnyH_take (i := 4) (oi := _) (v := ?_) rfl (by kernel_rfl) (by kernel_rfl) (by kernel_rfl) (fun _ _ _ h => h) (Or.inl ⟨by rfl, ?_⟩) hS ?_
      rotate_left
      · (intro w hSw; (try dsimp only at hSw); go_simp; (try with_reducible rfl))
      rotate_left
      simp only [Act.put, List.getElem_toArray, List.getElem_cons_zero, List.getElem_cons_succ, List.setIfInBounds_toArray, List.set_cons_zero, List.set_cons_succ]
      refine wpAnyH_take (i := 5) (oi := _) (v := ?_) rfl (by kernel_rfl) (by kernel_rfl) (by kernel_rfl) (fun _ _ _ h => h) (Or.inl ⟨by rfl, ?_⟩) hS ?_
      rotate_left
      · (intro w hSw; (try dsimp only at hSw); go_simp; (try with_reducible rfl))
      rotate_left
      simp only [Act.put, List.getElem_toArray, List.getElem_cons_zero, List.getElem_cons_succ, List.setIfInBounds_toArray, List.set_cons_zero, List.set_cons_succ]
      refine wpAnyH_take (i := 8) (oi := _) (v := ?_) rfl (by kernel_rfl) (by kernel_rfl) (by kernel_rfl) (fun _ _ _ h => h) (Or.inl ⟨by rfl, ?_⟩) hS ?_
      rotate_left
      · (intro w hSw; (try dsimp only at hSw); go_simp; (try with_reducible rfl))
      rotate_left
      simp only [Act.put, List.getElem_toArray, List.getElem_cons_zero, List.getElem_cons_succ, List.setIfInBounds_toArray, List.set_cons_zero, List.set_cons_succ]
      refine wpAnyH_take (i := 9) (oi := _) (v := ?_) rfl (by kernel_rfl) (by kernel_rfl) (by kernel_rfl) (fun _ _ _ h => h) (Or.inl ⟨by rfl, ?_⟩) hS ?_
      rotate_left
      · (intro w hSw; (try dsimp only at hSw); go_simp; (try with_reducible rfl))
      rotate_left
      simp only [Act.put, List.getElem_toArray, List.getElem_cons_zero, List.getElem_cons_succ, List.setIfInBounds_toArray, List.set_cons_zero, List.set_cons_succ]
      refine wpAnyH_take (i := 10) (oi := _) (v := ?_) rfl (by kernel_rfl) (by kernel_rfl) (by kernel_rfl) (fun _ _ _ h => h) (Or.inl ⟨by rfl, ?_⟩) hS ?_
      rotate_left
      · (intro w hSw; (try dsimp only at hSw); go_simp; (try with_reducible rfl))
      rotate_left
      simp only [Act.put, List.getElem_toArray, List.getElem_cons_zero, List.getElem_cons_succ, List.setIfInBounds_toArray, List.set_cons_zero, List.set_cons_succ]
      refine wpAnyH_take (i := 11) (oi := _) (v := ?_) rfl (by kernel_rfl) (by kernel_rfl) (by kernel_rfl) (fun _ _ _ h => h) (Or.inl ⟨by rfl, ?_⟩) hS ?_
      rotate_left
      · (intro w hSw; (try dsimp only at hSw); go_simp; (try with_reducible rfl))
      rotate_left
      simp only [Act.put, List.getElem_toArray, List.getElem_cons_zero, List.getElem_cons_succ, List.setIfInBounds_toArray, List.set_cons_zero, List.set_cons_succ]
      refine wpAnyH_take (i := 12) (oi := _) (v := ?_) rfl (by kernel_rfl) (by kernel_rfl) (by kernel_rfl) (fun _ _ _ h => h) (Or.inl ⟨by rfl, ?_⟩) hS ?_
      rotate_left
      · (intro w hSw; (try dsimp only at hSw); go_simp; (try with_reducible rfl))
      rotate_left
      simp only [Act.put, List.getElem_toArray, List.getElem_cons_zero, List.getElem_cons_succ, List.setIfInBounds_toArray, List.set_cons_zero, List.set_cons_succ]
      clear q5 q6 q7
      refine wpAnyH_ready (rs := [0, 6, 13]) (by kernel_rfl) (by simp) ?_
      refine AllReadyH.cons rfl (fun K hK => ?_) (AllReadyH.cons rfl (fun K hK => ?_) (AllReadyH.cons rfl (fun K hK => ?_) (AllReadyH.nil)))
      · rw [if_pos (by rfl)]
        have yB := BBx.cell
        go_simp
        refine hK.out _ _ hS (fun hS' => ?_)
        clear yB
        clear hK K hS
        have hS := hS'
        clear hS'
        try simp only [Act.put, List.getElem_toArray, List.getElem_cons_zero, List.getElem_cons_succ, List.setIfInBounds_toArray, List.set_cons_zero, List.set_cons_succ]
        refine wpAnyH_ready (rs := [6, 13]) (by kernel_rfl) (by simp) ?_
        refine AllReadyH.cons rfl (fun K hK => ?_) (AllReadyH.cons rfl (fun K hK => ?_) (AllReadyH.nil))
        · rw [if_pos (by rfl)]
          go_simp
          obtain ⟨a6, ha6⟩ : ∃ z : Nat, z = v.heap.size := ⟨_, rfl⟩
          have N2 := Is.new (w := v) a6 ha6 #[.int .i64 (sl : Int), .int .i64 0] 3 2 [sl, bareN false] rfl rfl
          have HBn : Box (v.alloc (.cells #[.int .i64 (sl : Int), .int .i64 0] 3)) g _ := ⟨BoxOf.alloc HBx.1 _, HBx.2⟩
          have BBn := BBx.alloc (.cells #[.int .i64 (sl : Int), .int .i64 0] 3)
          have tn := Ext.alloc t (.cells #[.int .i64 (sl : Int), .int .i64 0] 3)
          refine hK.out _ _ ⟨hS.1.alloc _, (hS.1.alloc (.cells #[.int .i64 (sl : Int), .int .i64 0] 3)).cell⟩ (fun hS' => ?_)
          rw [← ha6]
          clear ha6 HBx BBx t
          have HBx := HBn
          have BBx := BBn
          have t := tn
          have I2 := N2
          clear HBn BBn tn N2
          clear hK K hS
          have hS := hS'
          clear hS'
          try simp only [Act.put, List.getElem_toArray, List.getElem_cons_zero, List.getElem_cons_succ, List.setIfInBounds_toArray, List.set_cons_zero, List.set_cons_succ]
          generalize v.alloc (.cells #[.int .i64 (sl : Int), .int .i64 0] 3) = v1 at *
          refine wpAnyH_ready (rs := [7, 13]) (by kernel_rfl) (by simp) ?_
          refine AllReadyH.cons rfl (fun K hK => ?_) (AllReadyH.cons rfl (fun K hK => ?_) (AllReadyH.nil))
          · rw [if_pos (by rfl)]
            go_simp
            refine (nput_int (some ⟨g, 0, none⟩) 128 128 _ (.inr rfl) (15 + 6 * k) 1 (some ⟨a6, 0, none⟩) 2 2 [sl, bareN false] (15 + 6 * (k : Int)) 1 (by omega) rfl (by decide) (by decide) (by omega) HX2.out _ HBx.bs I2).mono ?_
            rintro e v2 ⟨g7, rfl, hg7, HBn, bn⟩
            have lg7 : gb < g7 := Nat.lt_of_lt_of_le BBx.lt hg7
            have BBn := BBx.next bn
            have tn := Ext.trans t bn
            refine hK.out _ _ ⟨hS.1.next bn, (hS.1.next bn).cell⟩ (fun hS' => ?_)
            clear HBx BBx t I2
            have HBx := HBn
            have BBx := BBn
            have t := tn
            clear HBn BBn tn bn hg7
            clear hK K hS
            have hS := hS'
            clear hS'
            try simp only [Act.put, List.getElem_toArray, List.getElem_cons_zero, List.getElem_cons_succ, List.setIfInBounds_toArray, List.set_cons_zero, List.set_cons_succ]
            refine wpAnyH_ready (rs := [13]) (by kernel_rfl) (by simp) ?_
            refine AllReadyH.cons rfl (fun K hK => ?_) AllReadyH.nil
            rw [if_pos (by rfl)]
            go_simp
            obtain ⟨a13, ha13⟩ : ∃ z : Nat, z = v2.heap.size := ⟨_, rfl⟩
            have N1 := Is.new (w := v2) a13 ha13 #[.int .i64 (su : Int)] 3 1 [su] rfl rfl
            have HBn : Box (v2.alloc (.cells #[.int .i64 (su : Int)] 3)) g7 _ := ⟨BoxOf.alloc HBx.1 _, HBx.2⟩
            have BBn := BBx.alloc (.cells #[.int .i64 (su : Int)] 3)
            have tn := Ext.alloc t (.cells #[.int .i64 (su : Int)] 3)
            refine hK.out _ _ ⟨hS.1.alloc _, (hS.1.alloc (.cells #[.int .i64 (su : Int)] 3)).cell⟩ (fun hS' => ?_)
            rw [← ha13]
            clear ha13 HBx BBx t
            have HBx := HBn
            have BBx := BBn
            have t := tn
            have I1 := N1
            clear HBn BBn tn N1
            clear hK K hS
            have hS := hS'
            clear hS'
            try simp only [Act.put, List.getElem_toArray, List.getElem_cons_zero, List.getElem_cons_succ, List.setIfInBounds_toArray, List.set_cons_zero, List.set_cons_succ]
            generalize v2.alloc (.cells #[.int .i64 (su : Int)] 3) = v3 at *
            refine wpAnyH_ready (rs := [14]) (by kernel_rfl) (by simp) ?_
            refine AllReadyH.cons rfl (fun K hK => ?_) AllReadyH.nil
            rw [if_pos (by rfl)]
            go_simp
            refine (nput_int (some ⟨g7, 0, none⟩) 128 128 _ (.inr rfl) (15 + 6 * k + 2) 4 (some ⟨a13, 0, none⟩) 1 1 [su] (15 + 6 * (k : Int) + 2) 4 (by omega) rfl (by decide) (by decide) (by omega) HX1.out _ HBx.bs I1).mono ?_
            rintro e v4 ⟨g8, rfl, hg8, HBn, bn⟩
            have lg8 : gb < g8 := Nat.lt_of_lt_of_le BBx.lt hg8
            have BBn := BBx.next bn
            have tn := Ext.trans t bn
            refine hK.out _ _ ⟨hS.1.next bn, (hS.1.next bn).cell⟩ (fun hS' => ?_)
            clear HBx BBx t I1
            have HBx := HBn
            have BBx := BBn
            have t := tn
            clear HBn BBn tn bn hg8
            clear hK K hS
            have hS := hS'
            clear hS'
            try simp only [Act.put, List.getElem_toArray, List.getElem_cons_zero, List.getElem_cons_succ, List.setIfInBounds_toArray, List.set_cons_zero, List.set_cons_succ]
            refine wpAnyH_ready (rs := [15]) (by kernel_rfl) (by simp) ?_
            refine AllReadyH.cons rfl (fun K hK => ?_) AllReadyH.nil
            rw [if_pos (by rfl)]
            have fB := BBx.free
            have yB := BBx.cell
            go_simp
            refine hK.out _ _ ⟨nbox_else hS.1 (show gr ≠ gb by omega) 0 _, (nbox_else hS.1 (show gr ≠ gb by omega) 0 _).cell⟩ (fun hS' => ?_)
            clear fB yB
            clear hK K hS
            have hS := hS'
            clear hS'
            try simp only [Act.put, List.getElem_toArray, List.getElem_cons_zero, List.getElem_cons_succ, List.setIfInBounds_toArray, List.set_cons_zero, List.set_cons_succ]
            refine wpAnyH_done (by kernel_rfl) ?_ _
            exact wbody_done hA hX hbw ha2 lgx (Nat.le_of_lt ha2) BBx HBx lg8 t HFIN.out
          · rw [if_pos (by rfl)]
            go_simp
            obtain ⟨a13, ha13⟩ : ∃ z : Nat, z = v1.heap.size := ⟨_, rfl⟩
            have N1 := Is.new (w := v1) a13 ha13 #[.int .i64 (su : Int)] 3 1 [su] rfl rfl
            have HBn : Box (v1.alloc (.cells #[.int .i64 (su : Int)] 3)) g _ := ⟨BoxOf.alloc HBx.1 _, HBx.2⟩
            have BBn := BBx.alloc (.cells #[.int .i64 (su : Int)] 3)
            have tn := Ext.alloc t (.cells #[.int .i64 (su : Int)] 3)
            have In := I2.alloc (.cells #[.int .i64 (su : Int)] 3)
            refine hK.out _ _ ⟨hS.1.alloc _, (hS.1.alloc (.cells #[.int .i64 (su : Int)] 3)).cell⟩ (fun hS' => ?_)
            rw [← ha13]
            clear ha13 HBx BBx t I2
            have HBx := HBn
            have BBx := BBn
            have t := tn
            have I2 := In
            have I1 := N1
            clear HBn BBn tn N1 In
            clear hK K hS
            have hS := hS'
            clear hS'
            try simp only [Act.put, List.getElem_toArray, List.getElem_cons_zero, List.getElem_cons_succ, List.setIfInBounds_toArray, List.set_cons_zero, List.set_cons_succ]
            generalize v1.alloc (.cells #[.int .i64 (su : Int)] 3) = v5 at *
            refine wpAnyH_ready (rs := [7]) (by kernel_rfl) (by simp) ?_
            refine AllReadyH.cons rfl (fun K hK => ?_) AllReadyH.nil
            rw [if_pos (by rfl)]
            go_simp
            refine (nput_int (some ⟨g, 0, none⟩) 128 128 _ (.inr rfl) (15 + 6 * k) 1 (some ⟨a6, 0, none⟩) 2 2 [sl, bareN false] (15 + 6 * (k : Int)) 1 (by omega) rfl (by decide) (by decide) (by omega) HX2.out _ HBx.bs I2).mono ?_
            rintro e v6 ⟨g7, rfl, hg7, HBn, bn⟩
            have lg7 : gb < g7 := Nat.lt_of_lt_of_le BBx.lt hg7
            have BBn := BBx.next bn
            have tn := Ext.trans t bn
            have In := I1.below bn
            refine hK.out _ _ ⟨hS.1.next bn, (hS.1.next bn).cell⟩ (fun hS' => ?_)
            clear HBx BBx t I2 I1
            have HBx := HBn
            have BBx := BBn
            have t := tn
            have I1 := In
            clear HBn BBn tn bn hg7 In
            clear hK K hS
            have hS := hS'
            clear hS'
            try simp only [Act.put, List.getElem_toArray, List.getElem_cons_zero, List.getElem_cons_succ, List.setIfInBounds_toArray, List.set_cons_zero, List.set_cons_succ]
            refine wpAnyH_ready (rs := [14]) (by kernel_rfl) (by simp) ?_
            refine AllReadyH.cons rfl (fun K hK => ?_) AllReadyH.nil
            rw [if_pos (by rfl)]
            go_simp
            refine (nput_int (some ⟨g7, 0, none⟩) 128 128 _ (.inr rfl) (15 + 6 * k + 2) 4 (some ⟨a13, 0, none⟩) 1 1 [su] (15 + 6 * (k : Int) + 2) 4 (by omega) rfl (by decide) (by decide) (by omega) HX1.out _ HBx.bs I1).mono ?_
            rintro e v7 ⟨g8, rfl, hg8, HBn, bn⟩
            have lg8 : gb < g8 := Nat.lt_of_lt_of_le BBx.lt hg8
            have BBn := BBx.next bn
            have tn := Ext.trans t bn
            refine hK.out _ _ ⟨hS.1.next bn, (hS.1.next bn).cell⟩ (fun hS' => ?_)
            clear HBx BBx t I1
            have HBx := HBn
            have BBx := BBn
            have t := tn
            clear HBn BBn tn bn hg8
            clear hK K hS
            have hS := hS'
            clear hS'
            try simp only [Act.put, List.getElem_toArray, List.getElem_cons_zero, List.getElem_cons_succ, List.setIfInBounds_toArray, List.set_cons_zero, List.set_cons_succ]
            refine wpAnyH_ready (rs := [15]) (by kernel_rfl) (by simp) ?_
            refine AllReadyH.cons rfl (fun K hK => ?_) AllReadyH.nil
            rw [if_pos (by rfl)]
            have fB := BBx.free
            have yB := BBx.cell
            go_simp
            refine hK.out _ _ ⟨nbox_else hS.1 (show gr ≠ gb by omega) 0 _, (nbox_else hS.1 (show gr ≠ gb by omega) 0 _).cell⟩ (fun hS' => ?_)
            clear fB yB
            clear hK K hS
            have hS := hS'
            clear hS'
            try simp only [Act.put, List.getElem_toArray, List.getElem_cons_zero, List.getElem_cons_succ, List.setIfInBounds_toArray, List.set_cons_zero, List.set_cons_succ]
            refine wpAnyH_done (by kernel_rfl) ?_ _
            exact wbody_done hA hX hbw ha2 lgx (Nat.le_of_lt ha2) BBx HBx lg8 t HFIN.out
        · rw [if_pos (by rfl)]
          go_simp
          obtain ⟨a13, ha13⟩ : ∃ z : Nat, z = v.heap.size := ⟨_, rfl⟩
          have N1 := Is.new (w := v) a13 ha13 #[.int .i64 (su : Int)] 3 1 [su] rfl rfl
          have HBn : Box (v.alloc (.cells #[.int .i64 (su : Int)] 3)) g _ := ⟨BoxOf.alloc HBx.1 _, HBx.2⟩
          have BBn := BBx.alloc (.cells #[.int .i64 (su : Int)] 3)
          have tn := Ext.alloc t (.cells #[.int .i64 (su : Int)] 3)
          refine hK.out _ _ ⟨hS.1.alloc _, (hS.1.alloc (.cells #[.int .i64 (su : Int)] 3)).cell⟩ (fun hS' => ?_)
          rw [← ha13]
          clear ha13 HBx BBx t
          have HBx := HBn
          have BBx := BBn
          have t := tn
          have I1 := N1
          clear HBn BBn tn N1
          clear hK K hS
          have hS := hS'
          clear hS'
          try simp only [Act.put, List.getElem_toArray, List.getElem_cons_zero, List.getElem_cons_succ, List.setIfInBounds_toArray, List.set_cons_zero, List.set_cons_succ]
          generalize v.alloc (.cells #[.int .i64 (su : Int)] 3) = v8 at *
          refine wpAnyH_ready (rs := [6]) (by kernel_rfl) (by simp) ?_
          refine AllReadyH.cons rfl (fun K hK => ?_) AllReadyH.nil
          rw [if_pos (by rfl)]
          go_simp
          obtain ⟨a6, ha6⟩ : ∃ z : Nat, z = v8.heap.size := ⟨_, rfl⟩
          have N2 := Is.new (w := v8) a6 ha6 #[.int .i64 (sl : Int), .int .i64 0] 3 2 [sl, bareN false] rfl rfl
          have HBn : Box (v8.alloc (.cells #[.int .i64 (sl : Int), .int .i64 0] 3)) g _ := ⟨BoxOf.alloc HBx.1 _, HBx.2⟩
          have BBn := BBx.alloc (.cells #[.int .i64 (sl : Int), .int .i64 0] 3)
          have tn := Ext.alloc t (.cells #[.int .i64 (sl : Int), .int .i64 0] 3)
          have In := I1.alloc (.cells #[.int .i64 (sl : Int), .int .i64 0] 3)
          refine hK.out _ _ ⟨hS.1.alloc _, (hS.1.alloc (.cells #[.int .i64 (sl : Int), .int .i64 0] 3)).cell⟩ (fun hS' => ?_)
          rw [← ha6]
          clear ha6 HBx BBx t I1
          have HBx := HBn
          have BBx := BBn
          have t := tn
          have I1 := In
          have I2 := N2
          clear HBn BBn tn N2 In
          clear hK K hS
          have hS := hS'
          clear hS'
          try simp only [Act.put, List.getElem_toArray, List.getElem_cons_zero, List.getElem_cons_succ, List.setIfInBounds_toArray, List.set_cons_zero, List.set_cons_succ]
          generalize v8.alloc (.cells #[.int .i64 (sl : Int), .int .i64 0] 3) = v9 at *
          refine wpAnyH_ready (rs := [7]) (by kernel_rfl) (by simp) ?_
          refine AllReadyH.cons rfl (fun K hK => ?_) AllReadyH.nil
          rw [if_pos (by rfl)]
          go_simp
          refine (nput_int (some ⟨g, 0, none⟩) 128 128 _ (.inr rfl) (15 + 6 * k) 1 (some ⟨a6, 0, none⟩) 2 2 [sl, bareN false] (15 + 6 * (k : Int)) 1 (by omega) rfl (by decide) (by decide) (by omega) HX2.out _ HBx.bs I2).mono ?_
          rintro e v10 ⟨g7, rfl, hg7, HBn, bn⟩
          have lg7 : gb < g7 := Nat.lt_of_lt_of_le BBx.lt hg7
          have BBn := BBx.next bn
          have tn := Ext.trans t bn
          have In := I1.below bn
          refine hK.out _ _ ⟨hS.1.next bn, (hS.1.next bn).cell⟩ (fun hS' => ?_)
          clear HBx BBx t I2 I1
          have HBx := HBn
          have BBx := BBn
          have t := tn
          have I1 := In
          clear HBn BBn tn bn hg7 In
          clear hK K hS
          have hS := hS'
          clear hS'
          try simp only [Act.put, List.getElem_toArray, List.getElem_cons_zero, List.getElem_cons_succ, List.setIfInBounds_toArray, List.set_cons_zero, List.set_cons_succ]
          refine wpAnyH_ready (rs := [14]) (by kernel_rfl) (by simp) ?_
          refine AllReadyH.cons rfl (fun K hK => ?_) AllReadyH.nil
          rw [if_pos (by rfl)]
          go_simp
          refine (nput_int (some ⟨g7, 0, none⟩) 128 128 _ (.inr rfl) (15 + 6 * k + 2) 4 (some ⟨a13, 0, none⟩) 1 1 [su] (15 + 6 * (k : Int) + 2) 4 (by omega) rfl (by decide) (by decide) (by omega) HX1.out _ HBx.bs I1).mono ?_
          rintro e v11 ⟨g8, rfl, hg8, HBn, bn⟩
          have lg8 : gb < g8 := Nat.lt_of_lt_of_le BBx.lt hg8
          have BBn := BBx.next bn
          have tn := Ext.trans t bn
          refine hK.out _ _ ⟨hS.1.next bn, (hS.1.next bn).cell⟩ (fun hS' => ?_)
          clear HBx BBx t I1
          have HBx := HBn
          have BBx := BBn
          have t := tn
          clear HBn BBn tn bn hg8
          clear hK K hS
          have hS := hS'
          clear hS'
          try simp only [Act.put, List.getElem_toArray, List.getElem_cons_zero, List.getElem_cons_succ, List.setIfInBounds_toArray, List.set_cons_zero, List.set_cons_succ]
          refine wpAnyH_ready (rs := [15]) (by kernel_rfl) (by simp) ?_
          refine AllReadyH.cons rfl (fun K hK => ?_) AllReadyH.nil
          rw [if_pos (by rfl)]
          have fB := BBx.free
          have yB := BBx.cell
          go_simp
          refine hK.out _ _ ⟨nbox_else hS.1 (show gr ≠ gb by omega) 0 _, (nbox_else hS.1 (show gr ≠ gb by omega) 0 _).cell⟩ (fun hS' => ?_)
          clear fB yB
          clear hK K hS
          have hS := hS'
          clear hS'
          try simp only [Act.put, List.getElem_toArray, List.getElem_cons_zero, List.getElem_cons_succ, List.setIfInBounds_toArray, List.set_cons_zero, List.set_cons_succ]
          refine wpAnyH_done (by kernel_rfl) ?_ _
          exact wbody_done hA hX hbw ha2 lgx (Nat.le_of_lt ha2) BBx HBx lg8 t HFIN.out
      · rw [if_pos (by rfl)]
        go_simp
        obtain ⟨a6, ha6⟩ : ∃ z : Nat, z = v.heap.size := ⟨_, rfl⟩
        have N2 := Is.new (w := v) a6 ha6 #[.int .i64 (sl : Int), .int .i64 0] 3 2 [sl, bareN false] rfl rfl
        have HBn : Box (v.alloc (.cells #[.int .i64 (sl : Int), .int .i64 0] 3)) g _ := ⟨BoxOf.alloc HBx.1 _, HBx.2⟩
        have BBn := BBx.alloc (.cells #[.int .i64 (sl : Int), .int .i64 0] 3)
        have tn := Ext.alloc t (.cells #[.int .i64 (sl : Int), .int .i64 0] 3)
        refine hK.out _ _ ⟨hS.1.alloc _, (hS.1.alloc (.cells #[.int .i64 (sl : Int), .int .i64 0] 3)).cell⟩ (fun hS' => ?_)
        rw [← ha6]
        clear ha6 HBx BBx t
        have HBx := HBn
        have BBx := BBn
        have t := tn
        have I2 := N2
        clear HBn BBn tn N2
        clear hK K hS
        have hS := hS'
        clear hS'
        try simp only [Act.put, List.getElem_toArray, List.getElem_cons_zero, List.getElem_cons_succ, List.setIfInBounds_toArray, List.set_cons_zero, List.set_cons_succ]
        generalize v.alloc (.cells #[.int .i64 (sl : Int), .int .i64 0] 3) = v12 at *
        refine wpAnyH_ready (rs := [0, 13]) (by kernel_rfl) (by simp) ?_
        refine AllReadyH.cons rfl (fun K hK => ?_) (AllReadyH.cons rfl (fun K hK => ?_) (AllReadyH.nil))
        · rw [if_pos (by rfl)]
          have yB := BBx.cell
          go_simp
          refine hK.out _ _ hS (fun hS' => ?_)
          clear yB
          clear hK K hS
          have hS := hS'
          clear hS'
          try simp only [Act.put, List.getElem_toArray, List.getElem_cons_zero, List.getElem_cons_succ, List.setIfInBounds_toArray, List.set_cons_zero, List.set_cons_succ]
          refine wpAnyH_ready (rs := [7, 13]) (by kernel_rfl) (by simp) ?_
          refine AllReadyH.cons rfl (fun K hK => ?_) (AllReadyH.cons rfl (fun K hK => ?_) (AllReadyH.nil))
          · rw [if_pos (by rfl)]
            go_simp
            refine (nput_int (some ⟨g, 0, none⟩) 128 128 _ (.inr rfl) (15 + 6 * k) 1 (some ⟨a6, 0, none⟩) 2 2 [sl, bareN false] (15 + 6 * (k : Int)) 1 (by omega) rfl (by decide) (by decide) (by omega) HX2.out _ HBx.bs I2).mono ?_
            rintro e v13 ⟨g7, rfl, hg7, HBn, bn⟩
            have lg7 : gb < g7 := Nat.lt_of_lt_of_le BBx.lt hg7
            have BBn := BBx.next bn
            have tn := Ext.trans t bn
            refine hK.out _ _ ⟨hS.1.next bn, (hS.1.next bn).cell⟩ (fun hS' => ?_)
            clear HBx BBx t I2
            have HBx := HBn
            have BBx := BBn
            have t := tn
            clear HBn BBn tn bn hg7
            clear hK K hS
            have hS := hS'
            clear hS'
            try simp only [Act.put, List.getElem_toArray, List.getElem_cons_zero, List.getElem_cons_succ, List.setIfInBounds_toArray, List.set_cons_zero, List.set_cons_succ]
            refine wpAnyH_ready (rs := [13]) (by kernel_rfl) (by simp) ?_
            refine AllReadyH.cons rfl (fun K hK => ?_) AllReadyH.nil
            rw [if_pos (by rfl)]
            go_simp
            obtain ⟨a13, ha13⟩ : ∃ z : Nat, z = v13.heap.size := ⟨_, rfl⟩
            have N1 := Is.new (w := v13) a13 ha13 #[.int .i64 (su : Int)] 3 1 [su] rfl rfl
            have HBn : Box (v13.alloc (.cells #[.int .i64 (su : Int)] 3)) g7 _ := ⟨BoxOf.alloc HBx.1 _, HBx.2⟩
            have BBn := BBx.alloc (.cells #[.int .i64 (su : Int)] 3)
            have tn := Ext.alloc t (.cells #[.int .i64 (su : Int)] 3)
            refine hK.out _ _ ⟨hS.1.alloc _, (hS.1.alloc (.cells #[.int .i64 (su : Int)] 3)).cell⟩ (fun hS' => ?_)
            rw [← ha13]
            clear ha13 HBx BBx t
            have HBx := HBn
            have BBx := BBn
            have t := tn
            have I1 := N1
            clear HBn BBn tn N1
            clear hK K hS
            have hS := hS'
            clear hS'
            try simp only [Act.put, List.getElem_toArray, List.getElem_cons_zero, List.getElem_cons_succ, List.setIfInBounds_toArray, List.set_cons_zero, List.set_cons_succ]
            generalize v13.alloc (.cells #[.int .i64 (su : Int)] 3) = v14 at *
            refine wpAnyH_ready (rs := [14]) (by kernel_rfl) (by simp) ?_
            refine AllReadyH.cons rfl (fun K hK => ?_) AllReadyH.nil
            rw [if_pos (by rfl)]
            go_simp
            refine (nput_int (some ⟨g7, 0, none⟩) 128 128 _ (.inr rfl) (15 + 6 * k + 2) 4 (some ⟨a13, 0, none⟩) 1 1 [su] (15 + 6 * (k : Int) + 2) 4 (by omega) rfl (by decide) (by decide) (by omega) HX1.out _ HBx.bs I1).mono ?_
            rintro e v15 ⟨g8, rfl, hg8, HBn, bn⟩
            have lg8 : gb < g8 := Nat.lt_of_lt_of_le BBx.lt hg8
            have BBn := BBx.next bn
            have tn := Ext.trans t bn
            refine hK.out _ _ ⟨hS.1.next bn, (hS.1.next bn).cell⟩ (fun hS' => ?_)
            clear HBx BBx t I1
            have HBx := HBn
            have BBx := BBn
            have t := tn
            clear HBn BBn tn bn hg8
            clear hK K hS
            have hS := hS'
            clear hS'
            try simp only [Act.put, List.getElem_toArray, List.getElem_cons_zero, List.getElem_cons_succ, List.setIfInBounds_toArray, List.set_cons_zero, List.set_cons_succ]
            refine wpAnyH_ready (rs := [15]) (by kernel_rfl) (by simp) ?_
            refine AllReadyH.cons rfl (fun K hK => ?_) AllReadyH.nil
            rw [if_pos (by rfl)]
            have fB := BBx.free
            have yB := BBx.cell
            go_simp
            refine hK.out _ _ ⟨nbox_else hS.1 (show gr ≠ gb by omega) 0 _, (nbox_else hS.1 (show gr ≠ gb by omega) 0 _).cell⟩ (fun hS' => ?_)
            clear fB yB
            clear hK K hS
            have hS := hS'
            clear hS'
            try simp only [Act.put, List.getElem_toArray, List.getElem_cons_zero, List.getElem_cons_succ, List.setIfInBounds_toArray, List.set_cons_zero, List.set_cons_succ]
            refine wpAnyH_done (by kernel_rfl) ?_ _
            exact wbody_done hA hX hbw ha2 lgx (Nat.le_of_lt ha2) BBx HBx lg8 t HFIN.out
          · rw [if_pos (by rfl)]
            go_simp
            obtain ⟨a13, ha13⟩ : ∃ z : Nat, z = v12.heap.size := ⟨_, rfl⟩
            have N1 := Is.new (w := v12) a13 ha13 #[.int .i64 (su : Int)] 3 1 [su] rfl rfl
            have HBn : Box (v12.alloc (.cells #[.int .i64 (su : Int)] 3)) g _ := ⟨BoxOf.alloc HBx.1 _, HBx.2⟩
            have BBn := BBx.alloc (.cells #[.int .i64 (su : Int)] 3)
            have tn := Ext.alloc t (.cells #[.int .i64 (su : Int)] 3)
            have In := I2.alloc (.cells #[.int .i64 (su : Int)] 3)
            refine hK.out _ _ ⟨hS.1.alloc _, (hS.1.alloc (.cells #[.int .i64 (su : Int)] 3)).cell⟩ (fun hS' => ?_)
            rw [← ha13]
            clear ha13 HBx BBx t I2
            have HBx := HBn
            have BBx := BBn
            have t := tn
            have I2 := In
            have I1 := N1
            clear HBn BBn tn N1 In
            clear hK K hS
            have hS := hS'
            clear hS'
            try simp only [Act.put, List.getElem_toArray, List.getElem_cons_zero, List.getElem_cons_succ, List.setIfInBounds_toArray, List.set_cons_zero, List.set_cons_succ]
            generalize v12.alloc (.cells #[.int .i64 (su : Int)] 3) = v16 at *
            refine wpAnyH_ready (rs := [7]) (by kernel_rfl) (by simp) ?_
            refine AllReadyH.cons rfl (fun K hK => ?_) AllReadyH.nil
            rw [if_pos (by rfl)]
            go_simp
            refine (nput_int (some ⟨g, 0, none⟩) 128 128 _ (.inr rfl) (15 + 6 * k) 1 (some ⟨a6, 0, none⟩) 2 2 [sl, bareN false] (15 + 6 * (k : Int)) 1 (by omega) rfl (by decide) (by decide) (by omega) HX2.out _ HBx.bs I2).mono ?_
            rintro e v17 ⟨g7, rfl, hg7, HBn, bn⟩
            have lg7 : gb < g7 := Nat.lt_of_lt_of_le BBx.lt hg7
            have BBn := BBx.next bn
            have tn := Ext.trans t bn
            have In := I1.below bn
            refine hK.out _ _ ⟨hS.1.next bn, (hS.1.next bn).cell⟩ (fun hS' => ?_)
            clear HBx BBx t I2 I1
            have HBx := HBn
            have BBx := BBn
            have t := tn
            have I1 := In
            clear HBn BBn tn bn hg7 In
            clear hK K hS
            have hS := hS'
            clear hS'
            try simp only [Act.put, List.getElem_toArray, List.getElem_cons_zero, List.getElem_cons_succ, List.setIfInBounds_toArray, List.set_cons_zero, List.set_cons_succ]
            refine wpAnyH_ready (rs := [14]) (by kernel_rfl) (by simp) ?_
            refine AllReadyH.cons rfl (fun K hK => ?_) AllReadyH.nil
            rw [if_pos (by rfl)]
            go_simp
            refine (nput_int (some ⟨g7, 0, none⟩) 128 128 _ (.inr rfl) (15 + 6 * k + 2) 4 (some ⟨a13, 0, none⟩) 1 1 [su] (15 + 6 * (k : Int) + 2) 4 (by omega) rfl (by decide) (by decide) (by omega) HX1.out _ HBx.bs I1).mono ?_
            rintro e v18 ⟨g8, rfl, hg8, HBn, bn⟩
            have lg8 : gb < g8 := Nat.lt_of_lt_of_le BBx.lt hg8
            have BBn := BBx.next bn
            have tn := Ext.trans t bn
            refine hK.out _ _ ⟨hS.1.next bn, (hS.1.next bn).cell⟩ (fun hS' => ?_)
            clear HBx BBx t I1
            have HBx := HBn
            have BBx := BBn
            have t := tn
            clear HBn BBn tn bn hg8
            clear hK K hS
            have hS := hS'
            clear hS'
            try simp only [Act.put, List.getElem_toArray, List.getElem_cons_zero, List.getElem_cons_succ, List.setIfInBounds_toArray, List.set_cons_zero, List.set_cons_succ]
            refine wpAnyH_ready (rs := [15]) (by kernel_rfl) (by simp) ?_
            refine AllReadyH.cons rfl (fun K hK => ?_) AllReadyH.nil
            rw [if_pos (by rfl)]
            have fB := BBx.free
            have yB := BBx.cell
            go_simp
            refine hK.out _ _ ⟨nbox_else hS.1 (show gr ≠ gb by omega) 0 _, (nbox_else hS.1 (show gr ≠ gb by omega) 0 _).cell⟩ (fun hS' => ?_)
            clear fB yB
            clear hK K hS
            have hS := hS'
            clear hS'
            try simp only [Act.put, List.getElem_toArray, List.getElem_cons_zero, List.getElem_cons_succ, List.setIfInBounds_toArray, List.set_cons_zero, List.set_cons_succ]
            refine wpAnyH_done (by kernel_rfl) ?_ _
            exact wbody_done hA hX hbw ha2 lgx (Nat.le_of_lt ha2) BBx HBx lg8 t HFIN.out
        · rw [if_pos (by rfl)]
          go_simp
          obtain ⟨a13, ha13⟩ : ∃ z : Nat, z = v12.heap.size := ⟨_, rfl⟩
          have N1 := Is.new (w := v12) a13 ha13 #[.int .i64 (su : Int)] 3 1 [su] rfl rfl
          have HBn : Box (v12.alloc (.cells #[.int .i64 (su : Int)] 3)) g _ := ⟨BoxOf.alloc HBx.1 _, HBx.2⟩
          have BBn := BBx.alloc (.cells #[.int .i64 (su : Int)] 3)
          have tn := Ext.alloc t (.cells #[.int .i64 (su : Int)] 3)
          have In := I2.alloc (.cells #[.int .i64 (su : Int)] 3)
          refine hK.out _ _ ⟨hS.1.alloc _, (hS.1.alloc (.cells #[.int .i64 (su : Int)] 3)).cell⟩ (fun hS' => ?_)
          rw [← ha13]
          clear ha13 HBx BBx t I2
          have HBx := HBn
          have BBx := BBn
          have t := tn
          have I2 := In
          have I1 := N1
          clear HBn BBn tn N1 In
          clear hK K hS
          have hS := hS'
          clear hS'
          try simp only [Act.put, List.getElem_toArray, List.getElem_cons_zero, List.getElem_cons_succ, List.setIfInBounds_toArray, List.set_cons_zero, List.set_cons_succ]
          generalize v12.alloc (.cells #[.int .i64 (su : Int)] 3) = v19 at *
          refine wpAnyH_ready (rs := [0]) (by kernel_rfl) (by simp) ?_
          refine AllReadyH.cons rfl (fun K hK => ?_) AllReadyH.nil
          rw [if_pos (by rfl)]
          have yB := BBx.cell
          go_simp
          refine hK.out _ _ hS (fun hS' => ?_)
          clear yB
          clear hK K hS
          have hS := hS'
          clear hS'
          try simp only [Act.put, List.getElem_toArray, List.getElem_cons_zero, List.getElem_cons_succ, List.setIfInBounds_toArray, List.set_cons_zero, List.set_cons_succ]
          refine wpAnyH_ready (rs := [7]) (by kernel_rfl) (by simp) ?_
          refine AllReadyH.cons rfl (fun K hK => ?_) AllReadyH.nil
          rw [if_pos (by rfl)]
          go_simp
          refine (nput_int (some ⟨g, 0, none⟩) 128 128 _ (.inr rfl) (15 + 6 * k) 1 (some ⟨a6, 0, none⟩) 2 2 [sl, bareN false] (15 + 6 * (k : Int)) 1 (by omega) rfl (by decide) (by decide) (by omega) HX2.out _ HBx.bs I2).mono ?_
          rintro e v20 ⟨g7, rfl, hg7, HBn, bn⟩
          have lg7 : gb < g7 := Nat.lt_of_lt_of_le BBx.lt hg7
          have BBn := BBx.next bn
          have tn := Ext.trans t bn
          have In := I1.below bn
          refine hK.out _ _ ⟨hS.1.next bn, (hS.1.next bn).cell⟩ (fun hS' => ?_)
          clear HBx BBx t I2 I1
          have HBx := HBn
          have BBx := BBn
          have t := tn
          have I1 := In
          clear HBn BBn tn bn hg7 In
          clear hK K hS
          have hS := hS'
          clear hS'
          try simp only [Act.put, List.getElem_toArray, List.getElem_cons_zero, List.getElem_cons_succ, List.setIfInBounds_toArray, List.set_cons_zero, List.set_cons_succ]
          refine wpAnyH_ready (rs := [14]) (by kernel_rfl) (by simp) ?_
          refine AllReadyH.cons rfl (fun K hK => ?_) AllReadyH.nil
          rw [if_pos (by rfl)]
          go_simp
          refine (nput_int (some ⟨g7, 0, none⟩) 128 128 _ (.inr rfl) (15 + 6 * k + 2) 4 (some ⟨a13, 0, none⟩) 1 1 [su] (15 + 6 * (k : Int) + 2) 4 (by omega) rfl (by decide) (by decide) (by omega) HX1.out _ HBx.bs I1).mono ?_
          rintro e v21 ⟨g8, rfl, hg8, HBn, bn⟩
          have lg8 : gb < g8 := Nat.lt_of_lt_of_le BBx.lt hg8
          have BBn := BBx.next bn
          have tn := Ext.trans t bn
          refine hK.out _ _ ⟨hS.1.next bn, (hS.1.next bn).cell⟩ (fun hS' => ?_)
          clear HBx BBx t I1
          have HBx := HBn
          have BBx := BBn
          have t := tn
          clear HBn BBn tn bn hg8
          clear hK K hS
          have hS := hS'
          clear hS'
          try simp only [Act.put, List.getElem_toArray, List.getElem_cons_zero, List.getElem_cons_succ, List.setIfInBounds_toArray, List.set_cons_zero, List.set_cons_succ]
          refine wpAnyH_ready (rs := [15]) (by kernel_rfl) (by simp) ?_
          refine AllReadyH.cons rfl (fun K hK => ?_) AllReadyH.nil
          rw [if_pos (by rfl)]
          have fB := BBx.free
          have yB := BBx.cell
          go_simp
          refine hK.out _ _ ⟨nbox_else hS.1 (show gr ≠ gb by omega) 0 _, (nbox_else hS.1 (show gr ≠ gb by omega) 0 _).cell⟩ (fun hS' => ?_)
          clear fB yB
          clear hK K hS
          have hS := hS'
          clear hS'
          try simp only [Act.put, List.getElem_toArray, List.getElem_cons_zero, List.getElem_cons_succ, List.setIfInBounds_toArray, List.set_cons_zero, List.set_cons_succ]
          refine wpAnyH_done (by kernel_rfl) ?_ _
          exact wbody_done hA hX hbw ha2 lgx (Nat.le_of_lt ha2) BBx HBx lg8 t HFIN.out
      · rw [if_pos (by rfl)]
        go_simp
        obtain ⟨a13, ha13⟩ : ∃ z : Nat, z = v.heap.size := ⟨_, rfl⟩
        have N1 := Is.new (w := v) a13 ha13 #[.int .i64 (su : Int)] 3 1 [su] rfl rfl
        have HBn : Box (v.alloc (.cells #[.int .i64 (su : Int)] 3)) g _ := ⟨BoxOf.alloc HBx.1 _, HBx.2⟩
        have BBn := BBx.alloc (.cells #[.int .i64 (su : Int)] 3)
        have tn := Ext.alloc t (.cells #[.int .i64 (su : Int)] 3)
        refine hK.out _ _ ⟨hS.1.alloc _, (hS.1.alloc (.cells #[.int .i64 (su : Int)] 3)).cell⟩ (fun hS' => ?_)
        rw [← ha13]
        clear ha13 HBx BBx t
        have HBx := HBn
        have BBx := BBn
        have t := tn
        have I1 := N1
        clear HBn BBn tn N1
        clear hK K hS
        have hS := hS'
        clear hS'
        try simp only [Act.put, List.getElem_toArray, List.getElem_cons_zero, List.getElem_cons_succ, List.setIfInBounds_toArray, List.set_cons_zero, List.set_cons_succ]
        generalize v.alloc (.cells #[.int .i64 (su : Int)] 3) = v22 at *
        refine wpAnyH_ready (rs := [0, 6]) (by kernel_rfl) (by simp) ?_
        refine AllReadyH.cons rfl (fun K hK => ?_) (AllReadyH.cons rfl (fun K hK => ?_) (AllReadyH.nil))
        · rw [if_pos (by rfl)]
          have yB := BBx.cell
          go_simp
          refine hK.out _ _ hS (fun hS' => ?_)
          clear yB
          clear hK K hS
          have hS := hS'
          clear hS'
          try simp only [Act.put, List.getElem_toArray, List.getElem_cons_zero, List.getElem_cons_succ, List.setIfInBounds_toArray, List.set_cons_zero, List.set_cons_succ]
          refine wpAnyH_ready (rs := [6]) (by kernel_rfl) (by simp) ?_
          refine AllReadyH.cons rfl (fun K hK => ?_) AllReadyH.nil
          rw [if_pos (by rfl)]
          go_simp
          obtain ⟨a6, ha6⟩ : ∃ z : Nat, z = v22.heap.size := ⟨_, rfl⟩
          have N2 := Is.new (w := v22) a6 ha6 #[.int .i64 (sl : Int), .int .i64 0] 3 2 [sl, bareN false] rfl rfl
          have HBn : Box (v22.alloc (.cells #[.int .i64 (sl : Int), .int .i64 0] 3)) g _ := ⟨BoxOf.alloc HBx.1 _, HBx.2⟩
          have BBn := BBx.alloc (.cells #[.int .i64 (sl : Int), .int .i64 0] 3)
          have tn := Ext.alloc t (.cells #[.int .i64 (sl : Int), .int .i64 0] 3)
          have In := I1.alloc (.cells #[.int .i64 (sl : Int), .int .i64 0] 3)
          refine hK.out _ _ ⟨hS.1.alloc _, (hS.1.alloc (.cells #[.int .i64 (sl : Int), .int .i64 0] 3)).cell⟩ (fun hS' => ?_)
          rw [← ha6]
          clear ha6 HBx BBx t I1
          have HBx := HBn
          have BBx := BBn
          have t := tn
          have I1 := In
          have I2 := N2
          clear HBn BBn tn N2 In
          clear hK K hS
          have hS := hS'
          clear hS'
          try simp only [Act.put, List.getElem_toArray, List.getElem_cons_zero, List.getElem_cons_succ, List.setIfInBounds_toArray, List.set_cons_zero, List.set_cons_succ]
          generalize v22.alloc (.cells #[.int .i64 (sl : Int), .int .i64 0] 3) = v23 at *
          refine wpAnyH_ready (rs := [7]) (by kernel_rfl) (by simp) ?_
          refine AllReadyH.cons rfl (fun K hK => ?_) AllReadyH.nil
          rw [if_pos (by rfl)]
          go_simp
          refine (nput_int (some ⟨g, 0, none⟩) 128 128 _ (.inr rfl) (15 + 6 * k) 1 (some ⟨a6, 0, none⟩) 2 2 [sl, bareN false] (15 + 6 * (k : Int)) 1 (by omega) rfl (by decide) (by decide) (by omega) HX2.out _ HBx.bs I2).mono ?_
          rintro e v24 ⟨g7, rfl, hg7, HBn, bn⟩
          have lg7 : gb < g7 := Nat.lt_of_lt_of_le BBx.lt hg7
          have BBn := BBx.next bn
          have tn := Ext.trans t bn
          have In := I1.below bn
          refine hK.out _ _ ⟨hS.1.next bn, (hS.1.next bn).cell⟩ (fun hS' => ?_)
          clear HBx BBx t I2 I1
          have HBx := HBn
          have BBx := BBn
          have t := tn
          have I1 := In
          clear HBn BBn tn bn hg7 In
          clear hK K hS
          have hS := hS'
          clear hS'
          try simp only [Act.put, List.getElem_toArray, List.getElem_cons_zero, List.getElem_cons_succ, List.setIfInBounds_toArray, List.set_cons_zero, List.set_cons_succ]
          refine wpAnyH_ready (rs := [14]) (by kernel_rfl) (by simp) ?_
          refine AllReadyH.cons rfl (fun K hK => ?_) AllReadyH.nil
          rw [if_pos (by rfl)]
          go_simp
          refine (nput_int (some ⟨g7, 0, none⟩) 128 128 _ (.inr rfl) (15 + 6 * k + 2) 4 (some ⟨a13, 0, none⟩) 1 1 [su] (15 + 6 * (k : Int) + 2) 4 (by omega) rfl (by decide) (by decide) (by omega) HX1.out _ HBx.bs I1).mono ?_
          rintro e v25 ⟨g8, rfl, hg8, HBn, bn⟩
          have lg8 : gb < g8 := Nat.lt_of_lt_of_le BBx.lt hg8
          have BBn := BBx.next bn
          have tn := Ext.trans t bn
          refine hK.out _ _ ⟨hS.1.next bn, (hS.1.next bn).cell⟩ (fun hS' => ?_)
          clear HBx BBx t I1
          have HBx := HBn
          have BBx := BBn
          have t := tn
          clear HBn BBn tn bn hg8
          clear hK K hS
          have hS := hS'
          clear hS'
          try simp only [Act.put, List.getElem_toArray, List.getElem_cons_zero, List.getElem_cons_succ, List.setIfInBounds_toArray, List.set_cons_zero, List.set_cons_succ]
          refine wpAnyH_ready (rs := [15]) (by kernel_rfl) (by simp) ?_
          refine AllReadyH.cons rfl (fun K hK => ?_) AllReadyH.nil
          rw [if_pos (by rfl)]
          have fB := BBx.free
          have yB := BBx.cell
          go_simp
          refine hK.out _ _ ⟨nbox_else hS.1 (show gr ≠ gb by omega) 0 _, (nbox_else hS.1 (show gr ≠ gb by omega) 0 _).cell⟩ (fun hS' => ?_)
          clear fB yB
          clear hK K hS
          have hS := hS'
          clear hS'
          try simp only [Act.put, List.getElem_toArray, List.getElem_cons_zero, List.getElem_cons_succ, List.setIfInBounds_toArray, List.set_cons_zero, List.set_cons_succ]
          refine wpAnyH_done (by kernel_rfl) ?_ _
          exact wbody_done hA hX hbw ha2 lgx (Nat.le_of_lt ha2) BBx HBx lg8 t HFIN.out
        · rw [if_pos (by rfl)]
          go_simp
          obtain ⟨a6, ha6⟩ : ∃ z : Nat, z = v22.heap.size := ⟨_, rfl⟩
          have N2 := Is.new (w := v22) a6 ha6 #[.int .i64 (sl : Int), .int .i64 0] 3 2 [sl, bareN false] rfl rfl
          have HBn : Box (v22.alloc (.cells #[.int .i64 (sl : Int), .int .i64 0] 3)) g _ := ⟨BoxOf.alloc HBx.1 _, HBx.2⟩
          have BBn := BBx.alloc (.cells #[.int .i64 (sl : Int), .int .i64 0] 3)
          have tn := Ext.alloc t (.cells #[.int .i64 (sl : Int), .int .i64 0] 3)
          have In := I1.alloc (.cells #[.int .i64 (sl : Int), .int .i64 0] 3)
          refine hK.out _ _ ⟨hS.1.alloc _, (hS.1.alloc (.cells #[.int .i64 (sl : Int), .int .i64 0] 3)).cell⟩ (fun hS' => ?_)
          rw [← ha6]
          clear ha6 HBx BBx t I1
          have HBx := HBn
          have BBx := BBn
          have t := tn
          have I1 := In
          have I2 := N2
          clear HBn BBn tn N2 In
          clear hK K hS
          have hS := hS'
          clear hS'
          try simp only [Act.put, List.getElem_toArray, List.getElem_cons_zero, List.getElem_cons_succ, List.setIfInBounds_toArray, List.set_cons_zero, List.set_cons_succ]
          generalize v22.alloc (.cells #[.int .i64 (sl : Int), .int .i64 0] 3) = v26 at *
          refine wpAnyH_ready (rs := [0]) (by kernel_rfl) (by simp) ?_
          refine AllReadyH.cons rfl (fun K hK => ?_) AllReadyH.nil
          rw [if_pos (by rfl)]
          have yB := BBx.cell
          go_simp
          refine hK.out _ _ hS (fun hS' => ?_)
          clear yB
          clear hK K hS
          have hS := hS'
          clear hS'
          try simp only [Act.put, List.getElem_toArray, List.getElem_cons_zero, List.getElem_cons_succ, List.setIfInBounds_toArray, List.set_cons_zero, List.set_cons_succ]
          refine wpAnyH_ready (rs := [7]) (by kernel_rfl) (by simp) ?_
          refine AllReadyH.cons rfl (fun K hK => ?_) AllReadyH.nil
          rw [if_pos (by rfl)]
          go_simp
          refine (nput_int (some ⟨g, 0, none⟩) 128 128 _ (.inr rfl) (15 + 6 * k) 1 (some ⟨a6, 0, none⟩) 2 2 [sl, bareN false] (15 + 6 * (k : Int)) 1 (by omega) rfl (by decide) (by decide) (by omega) HX2.out _ HBx.bs I2).mono ?_
          rintro e v27 ⟨g7, rfl, hg7, HBn, bn⟩
          have lg7 : gb < g7 := Nat.lt_of_lt_of_le BBx.lt hg7
          have BBn := BBx.next bn
          have tn := Ext.trans t bn
          have In := I1.below bn
          refine hK.out _ _ ⟨hS.1.next bn, (hS.1.next bn).cell⟩ (fun hS' => ?_)
          clear HBx BBx t I2 I1
          have HBx := HBn
          have BBx := BBn
          have t := tn
          have I1 := In
          clear HBn BBn tn bn hg7 In
          clear hK K hS
          have hS := hS'
          clear hS'
          try simp only [Act.put, List.getElem_toArray, List.getElem_cons_zero, List.getElem_cons_succ, List.setIfInBounds_toArray, List.set_cons_zero, List.set_cons_succ]
          refine wpAnyH_ready (rs := [14]) (by kernel_rfl) (by simp) ?_
          refine AllReadyH.cons rfl (fun K hK => ?_) AllReadyH.nil
          rw [if_pos (by rfl)]
          go_simp
          refine (nput_int (some ⟨g7, 0, none⟩) 128 128 _ (.inr rfl) (15 + 6 * k + 2) 4 (some ⟨a13, 0, none⟩) 1 1 [su] (15 + 6 * (k : Int) + 2) 4 (by omega) rfl (by decide) (by decide) (by omega) HX1.out _ HBx.bs I1).mono ?_
          rintro e v28 ⟨g8, rfl, hg8, HBn, bn⟩
          have lg8 : gb < g8 := Nat.lt_of_lt_of_le BBx.lt hg8
          have BBn := BBx.next bn
          have tn := Ext.trans t bn
          refine hK.out _ _ ⟨hS.1.next bn, (hS.1.next bn).cell⟩ (fun hS' => ?_)
          clear HBx BBx t I1
          have HBx := HBn
          have BBx := BBn
          have t := tn
          clear HBn BBn tn bn hg8
          clear hK K hS
          have hS := hS'
          clear hS'
          try simp only [Act.put, List.getElem_toArray, List.getElem_cons_zero, List.getElem_cons_succ, List.setIfInBounds_toArray, List.set_cons_zero, List.set_cons_succ]
          refine wpAnyH_ready (rs := [15]) (by kernel_rfl) (by simp) ?_
          refine AllReadyH.cons rfl (fun K hK => ?_) AllReadyH.nil
          rw [if_pos (by rfl)]
          have fB := BBx.free
          have yB := BBx.cell
          go_simp
          refine hK.out _ _ ⟨nbox_else hS.1 (show gr ≠ gb by omega) 0 _, (nbox_else hS.1 (show gr ≠ gb by omega) 0 _).cell⟩ (fun hS' => ?_)
          clear fB yB
          clear hK K hS
          have hS := hS'
          clear hS'
          try simp only [Act.put, List.getElem_toArray, List.getElem_cons_zero, List.getElem_cons_succ, List.setIfInBounds_toArray, List.set_cons_zero, List.set_cons_succ]
          refine wpAnyH_done (by kernel_rfl) ?_ _
          exact wbody_done hA hX hbw ha2 lgx (Nat.le_of_lt ha2) BBx HBx lg8 t HFIN.out
    · gi_wp2
      have hx2 : ∀ y ∈ [sl, bareN true], y < 256 ^ 1 := by simp [bareN]; omega
      have hx1 : ∀ y ∈ [su], y < 256 ^ 4 := by simp; omega
      have HX2 := Lib.hid hx2
      have HX1 := Lib.hid hx1
      clear hx2 hx1
      obtain ⟨gr, hgr⟩ : ∃ z : Nat, z = W.heap.size := ⟨_, rfl⟩
      have B1 := hB.alloc (.cells #[.int .u8 (sl : Int), .bool true, .int .u32 (su : Int)] 27)
      have R1 := BoxOf.new' W gr #[.int .u8 (sl : Int), .bool true, .int .u32 (su : Int)] 27 hgr
      have H1 : Box (W.alloc (.cells #[.int .u8 (sl : Int), .bool true, .int .u32 (su : Int)] 27)) g _ := ⟨BoxOf.alloc hH.1 _, hH.2⟩
      have t1 := Ext.alloc (Below.refl W.heap.size W) (.cells #[.int .u8 (sl : Int), .bool true, .int .u32 (su : Int)] 27)
      have lgr : gb < gr := by rw [hgr]; exact hB.lt
      rw [← hgr]
      generalize W.alloc (.cells #[.int .u8 (sl : Int), .bool true, .int .u32 (su : Int)] 27) = W1 at *
      have q5 : IntKind.i64.wrap (sl : Int) = (sl : Int) := i64_fit (by omega)
      have q6 : IntKind.i64.wrap (su : Int) = (su : Int) := IntWalk.i64_in _ (by omega)
      have q7 : IntKind.i64.wrap (15 + 6 * (k : Int) + 2) = 15 + 6 * (k : Int) + 2 := i64_fit (by omega)
      refine region_inRound (by kernel_rfl) (by kernel_rfl) (S := fun w' => BoxOf w' gr #[.int .u8 (sl : Int), .bool true, .int .u32 (su : Int)] 27 ∧ ∀ o, w'.cell? ⟨gr, o, none⟩ = (#[.int .u8 (sl : Int), .bool true, .int .u32 (su : Int)] : Array Value).toList[o]?) ⟨BoxOf.drew R1, (BoxOf.drew R1).cell⟩ (fun hS => ?_)
      have BBx := BoxOf.drew B1
      have HBx : Box W1.drew g _ := ⟨BoxOf.drew H1.1, H1.2⟩
      have t := Ext.drew t1
      clear B1 H1 R1 t1 hgr
      generalize W1.drew = v at *
      refine wpAnyH_take (i := 1) (oi := _) (v := ?_) rfl (by kernel_rfl) (by kernel_rfl) (by kernel_rfl) (fun _ _ _ h => h) (Or.inl ⟨by rfl, ?_⟩) hS ?_
      rotate_left
      · (intro w hSw; (try dsimp only at hSw); go_simp; (try with_reducible rfl))
      rotate_left
      simp only [Act.put, List.getElem_toArray, List.getElem_cons_zero, List.getElem_cons_succ, List.setIfInBounds_toArray, List.set_cons_zero, List.set_cons_succ]
      refine wpAnyH_take (i := 2) (oi := _) (v := ?_) rfl (by kernel_rfl) (by kernel_rfl) (by kernel_rfl) (fun _ _ _ h => h) (Or.inl ⟨by rfl, ?_⟩) hS ?_
      rotate_left
      · (intro w hSw; (try dsimp only at hSw); go_simp; (try with_reducible rfl))
      rotate_left
      simp only [Act.put, List.getElem_toArray, List.getElem_cons_zero, List.getElem_cons_succ, List.setIfInBounds_toArray, List.set_cons_zero, List.set_cons_succ]
      refine wpAnyH_take (i := 3) (oi := _) (v := ?_) rfl (by kernel_rfl) (by kernel_rfl) (by kernel_rfl) (fun _ _ _ h => h) (Or.inl ⟨by rfl, ?_⟩) hS ?_
      rotate_left
      · (intro w hSw; (try dsimp only at hSw); go_simp; (try with_reducible rfl))
      rotate_left
      simp only [Act.put, List.getElem_toArray, List.getElem_cons_zero, List.getElem_cons_succ, List.setIfInBounds_toArray, List.set_cons_zero, List.set_cons_succ]
      refine wpAnyH_take (i := 4) (oi := _) (v := ?_) rfl (by kernel_rfl) (by kernel_rfl) (by kernel_rfl) (fun _ _ _ h => h) (Or.inl ⟨by rfl, ?_⟩) hS ?_
      rotate_left
      · (intro w hSw; (try dsimp only at hSw); go_simp; (try with_reducible rfl))
      rotate_left
      simp only [Act.put, List.getElem_toArray, List.getElem_cons_zero, List.getElem_cons_succ, List.setIfInBounds_toArray, List.set_cons_zero, List.set_cons_succ]
      refine wpAnyH_take (i := 5) (oi := _) (v := ?_) rfl (by kernel_rfl) (by kernel_rfl) (by kernel_rfl) (fun _ _ _ h => h) (Or.inl ⟨by rfl, ?_⟩) hS ?_
      rotate_left
      · (intro w hSw; (try dsimp only at hSw); go_simp; (try with_reducible rfl))
      rotate_left
      simp only [Act.put, List.getElem_toArray, List.getElem_cons_zero, List.getElem_cons_succ, List.setIfInBounds_toArray, List.set_cons_zero, List.set_cons_succ]
      refine wpAnyH_take (i := 8) (oi := _) (v := ?_) rfl (by kernel_rfl) (by kernel_rfl) (by kernel_rfl) (fun _ _ _ h => h) (Or.inl ⟨by rfl, ?_⟩) hS ?_
      rotate_left
      · (intro w hSw; (try dsimp only at hSw); go_simp; (try with_reducible rfl))
      rotate_left
      simp only [Act.put, List.getElem_toArray, List.getElem_cons_zero, List.getElem_cons_succ, List.setIfInBounds_toArray, List.set_cons_zero, List.set_cons_succ]
      refine wpAnyH_take (i := 9) (oi := _) (v := ?_) rfl (by kernel_rfl) (by kernel_rfl) (by kernel_rfl) (fun _ _ _ h => h) (Or.inl ⟨by rfl, ?_⟩) hS ?_
      rotate_left
      · (intro w hSw; (try dsimp only at hSw); go_simp; (try with_reducible rfl))
      rotate_left
      simp only [Act.put, List.getElem_toArray, List.getElem_cons_zero, List.getElem_cons_succ, List.setIfInBounds_toArray, List.set_cons_zero, List.set_cons_succ]
      refine wpAnyH_take (i := 10) (oi := _) (v := ?_) rfl (by kernel_rfl) (by kernel_rfl) (by kernel_rfl) (fun _ _ _ h => h) (Or.inl ⟨by rfl, ?_⟩) hS ?_
      rotate_left
      · (intro w hSw; (try dsimp only at hSw); go_simp; (try with_reducible rfl))
      rotate_left
      simp only [Act.put, List.getElem_toArray, List.getElem_cons_zero, List.getElem_cons_succ, List.setIfInBounds_toArray, List.set_cons_zero, List.set_cons_succ]
      refine wpAnyH_take (i := 11) (oi := _) (v := ?_) rfl (by kernel_rfl) (by kernel_rfl) (by kernel_rfl) (fun _ _ _ h => h) (Or.inl ⟨by rfl, ?_⟩) hS ?_
      rotate_left
      · (intro w hSw; (try dsimp only at hSw); go_simp; (try with_reducible rfl))
      rotate_left
      simp only [Act.put, List.getElem_toArray, List.getElem_cons_zero, List.getElem_cons_succ, List.setIfInBounds_toArray, List.set_cons_zero, List.set_cons_succ]
      refine wpAnyH_take (i := 12) (oi := _) (v := ?_) rfl (by kernel_rfl) (by kernel_rfl) (by kernel_rfl) (fun _ _ _ h => h) (Or.inl ⟨by rfl, ?_⟩) hS ?_
      rotate_left
      · (intro w hSw; (try dsimp only at hSw); go_simp; (try with_reducible rfl))
      rotate_left
      simp only [Act.put, List.getElem_toArray, List.getElem_cons_zero, List.getElem_cons_succ, List.setIfInBounds_toArray, List.set_cons_zero, List.set_cons_succ]
      clear q5 q6 q7
      refine wpAnyH_ready (rs := [0, 6, 13]) (by kernel_rfl) (by simp) ?_
      refine AllReadyH.cons rfl (fun K hK => ?_) (AllReadyH.cons rfl (fun K hK => ?_) (AllReadyH.cons rfl (fun K hK => ?_) (AllReadyH.nil)))
      · rw [if_pos (by rfl)]
        have yB := BBx.cell
        go_simp
        refine hK.out _ _ hS (fun hS' => ?_)
        clear yB
        clear hK K hS
        have hS := hS'
        clear hS'
        try simp only [Act.put, List.getElem_toArray, List.getElem_cons_zero, List.getElem_cons_succ, List.setIfInBounds_toArray, List.set_cons_zero, List.set_cons_succ]
        refine wpAnyH_ready (rs := [6, 13]) (by kernel_rfl) (by simp) ?_
        refine AllReadyH.cons rfl (fun K hK => ?_) (AllReadyH.cons rfl (fun K hK => ?_) (AllReadyH.nil))
        · rw [if_pos (by rfl)]
          go_simp
          obtain ⟨a6, ha6⟩ : ∃ z : Nat, z = v.heap.size := ⟨_, rfl⟩
          have N2 := Is.new (w := v) a6 ha6 #[.int .i64 (sl : Int), .int .i64 1] 3 2 [sl, bareN true] rfl rfl
          have HBn : Box (v.alloc (.cells #[.int .i64 (sl : Int), .int .i64 1] 3)) g _ := ⟨BoxOf.alloc HBx.1 _, HBx.2⟩
          have BBn := BBx.alloc (.cells #[.int .i64 (sl : Int), .int .i64 1] 3)
          have tn := Ext.alloc t (.cells #[.int .i64 (sl : Int), .int .i64 1] 3)
          refine hK.out _ _ ⟨hS.1.alloc _, (hS.1.alloc (.cells #[.int .i64 (sl : Int), .int .i64 1] 3)).cell⟩ (fun hS' => ?_)
          rw [← ha6]
          clear ha6 HBx BBx t
          have HBx := HBn
          have BBx := BBn
          have t := tn
          have I2 := N2
          clear HBn BBn tn N2
          clear hK K hS
          have hS := hS'
          clear hS'
          try simp only [Act.put, List.getElem_toArray, List.getElem_cons_zero, List.getElem_cons_succ, List.setIfInBounds_toArray, List.set_cons_zero, List.set_cons_succ]
          generalize v.alloc (.cells #[.int .i64 (sl : Int), .int .i64 1] 3) = v1 at *
          refine wpAnyH_ready (rs := [7, 13]) (by kernel_rfl) (by simp) ?_
          refine AllReadyH.cons rfl (fun K hK => ?_) (AllReadyH.cons rfl (fun K hK => ?_) (AllReadyH.nil))
          · rw [if_pos (by rfl)]
            go_simp
            refine (nput_int (some ⟨g, 0, none⟩) 128 128 _ (.inr rfl) (15 + 6 * k) 1 (some ⟨a6, 0, none⟩) 2 2 [sl, bareN true] (15 + 6 * (k : Int)) 1 (by omega) rfl (by decide) (by decide) (by omega) HX2.out _ HBx.bs I2).mono ?_
            rintro e v2 ⟨g7, rfl, hg7, HBn, bn⟩
            have lg7 : gb < g7 := Nat.lt_of_lt_of_le BBx.lt hg7
            have BBn := BBx.next bn
            have tn := Ext.trans t bn
            refine hK.out _ _ ⟨hS.1.next bn, (hS.1.next bn).cell⟩ (fun hS' => ?_)
            clear HBx BBx t I2
            have HBx := HBn
            have BBx := BBn
            have t := tn
            clear HBn BBn tn bn hg7
            clear hK K hS
            have hS := hS'
            clear hS'
            try simp only [Act.put, List.getElem_toArray, List.getElem_cons_zero, List.getElem_cons_succ, List.setIfInBounds_toArray, List.set_cons_zero, List.set_cons_succ]
            refine wpAnyH_ready (rs := [13]) (by kernel_rfl) (by simp) ?_
            refine AllReadyH.cons rfl (fun K hK => ?_) AllReadyH.nil
            rw [if_pos (by rfl)]
            go_simp
            obtain ⟨a13, ha13⟩ : ∃ z : Nat, z = v2.heap.size := ⟨_, rfl⟩
            have N1 := Is.new (w := v2) a13 ha13 #[.int .i64 (su : Int)] 3 1 [su] rfl rfl
            have HBn : Box (v2.alloc (.cells #[.int .i64 (su : Int)] 3)) g7 _ := ⟨BoxOf.alloc HBx.1 _, HBx.2⟩
            have BBn := BBx.alloc (.cells #[.int .i64 (su : Int)] 3)
            have tn := Ext.alloc t (.cells #[.int .i64 (su : Int)] 3)
            refine hK.out _ _ ⟨hS.1.alloc _, (hS.1.alloc (.cells #[.int .i64 (su : Int)] 3)).cell⟩ (fun hS' => ?_)
            rw [← ha13]
            clear ha13 HBx BBx t
            have HBx := HBn
            have BBx := BBn
            have t := tn
            have I1 := N1
            clear HBn BBn tn N1
            clear hK K hS
            have hS := hS'
            clear hS'
            try simp only [Act.put, List.getElem_toArray, List.getElem_cons_zero, List.getElem_cons_succ, List.setIfInBounds_toArray, List.set_cons_zero, List.set_cons_succ]
            generalize v2.alloc (.cells #[.int .i64 (su : Int)] 3) = v3 at *
            refine wpAnyH_ready (rs := [14]) (by kernel_rfl) (by simp) ?_
            refine AllReadyH.cons rfl (fun K hK => ?_) AllReadyH.nil
            rw [if_pos (by rfl)]
            go_simp
            refine (nput_int (some ⟨g7, 0, none⟩) 128 128 _ (.inr rfl) (15 + 6 * k + 2) 4 (some ⟨a13, 0, none⟩) 1 1 [su] (15 + 6 * (k : Int) + 2) 4 (by omega) rfl (by decide) (by decide) (by omega) HX1.out _ HBx.bs I1).mono ?_
            rintro e v4 ⟨g8, rfl, hg8, HBn, bn⟩
            have lg8 : gb < g8 := Nat.lt_of_lt_of_le BBx.lt hg8
            have BBn := BBx.next bn
            have tn := Ext.trans t bn
            refine hK.out _ _ ⟨hS.1.next bn, (hS.1.next bn).cell⟩ (fun hS' => ?_)
            clear HBx BBx t I1
            have HBx := HBn
            have BBx := BBn
            have t := tn
            clear HBn BBn tn bn hg8
            clear hK K hS
            have hS := hS'
            clear hS'
            try simp only [Act.put, List.getElem_toArray, List.getElem_cons_zero, List.getElem_cons_succ, List.setIfInBounds_toArray, List.set_cons_zero, List.set_cons_succ]
            refine wpAnyH_ready (rs := [15]) (by kernel_rfl) (by simp) ?_
            refine AllReadyH.cons rfl (fun K hK => ?_) AllReadyH.nil
            rw [if_pos (by rfl)]
            have fB := BBx.free
            have yB := BBx.cell
            go_simp
            refine hK.out _ _ ⟨nbox_else hS.1 (show gr ≠ gb by omega) 0 _, (nbox_else hS.1 (show gr ≠ gb by omega) 0 _).cell⟩ (fun hS' => ?_)
            clear fB yB
            clear hK K hS
            have hS := hS'
            clear hS'
            try simp only [Act.put, List.getElem_toArray, List.getElem_cons_zero, List.getElem_cons_succ, List.setIfInBounds_toArray, List.set_cons_zero, List.set_cons_succ]
            refine wpAnyH_done (by kernel_rfl) ?_ _
            exact wbody_done hA hX hbw ha2 lgx (Nat.le_of_lt ha2) BBx HBx lg8 t HFIN.out
          · rw [if_pos (by rfl)]
            go_simp
            obtain ⟨a13, ha13⟩ : ∃ z : Nat, z = v1.heap.size := ⟨_, rfl⟩
            have N1 := Is.new (w := v1) a13 ha13 #[.int .i64 (su : Int)] 3 1 [su] rfl rfl
            have HBn : Box (v1.alloc (.cells #[.int .i64 (su : Int)] 3)) g _ := ⟨BoxOf.alloc HBx.1 _, HBx.2⟩
            have BBn := BBx.alloc (.cells #[.int .i64 (su : Int)] 3)
            have tn := Ext.alloc t (.cells #[.int .i64 (su : Int)] 3)
            have In := I2.alloc (.cells #[.int .i64 (su : Int)] 3)
            refine hK.out _ _ ⟨hS.1.alloc _, (hS.1.alloc (.cells #[.int .i64 (su : Int)] 3)).cell⟩ (fun hS' => ?_)
            rw [← ha13]
            clear ha13 HBx BBx t I2
            have HBx := HBn
            have BBx := BBn
            have t := tn
            have I2 := In
            have I1 := N1
            clear HBn BBn tn N1 In
            clear hK K hS
            have hS := hS'
            clear hS'
            try simp only [Act.put, List.getElem_toArray, List.getElem_cons_zero, List.getElem_cons_succ, List.setIfInBounds_toArray, List.set_cons_zero, List.set_cons_succ]
            generalize v1.alloc (.cells #[.int .i64 (su : Int)] 3) = v5 at *
            refine wpAnyH_ready (rs := [7]) (by kernel_rfl) (by simp) ?_
            refine AllReadyH.cons rfl (fun K hK => ?_) AllReadyH.nil
            rw [if_pos (by rfl)]
            go_simp
            refine (nput_int (some ⟨g, 0, none⟩) 128 128 _ (.inr rfl) (15 + 6 * k) 1 (some ⟨a6, 0, none⟩) 2 2 [sl, bareN true] (15 + 6 * (k : Int)) 1 (by omega) rfl (by decide) (by decide) (by omega) HX2.out _ HBx.bs I2).mono ?_
            rintro e v6 ⟨g7, rfl, hg7, HBn, bn⟩
            have lg7 : gb < g7 := Nat.lt_of_lt_of_le BBx.lt hg7
            have BBn := BBx.next bn
            have tn := Ext.trans t bn
            have In := I1.below bn
            refine hK.out _ _ ⟨hS.1.next bn, (hS.1.next bn).cell⟩ (fun hS' => ?_)
            clear HBx BBx t I2 I1
            have HBx := HBn
            have BBx := BBn
            have t := tn
            have I1 := In
            clear HBn BBn tn bn hg7 In
            clear hK K hS
            have hS := hS'
            clear hS'
            try simp only [Act.put, List.getElem_toArray, List.getElem_cons_zero, List.getElem_cons_succ, List.setIfInBounds_toArray, List.set_cons_zero, List.set_cons_succ]
            refine wpAnyH_ready (rs := [14]) (by kernel_rfl) (by simp) ?_
            refine AllReadyH.cons rfl (fun K hK => ?_) AllReadyH.nil
            rw [if_pos (by rfl)]
            go_simp
            refine (nput_int (some ⟨g7, 0, none⟩) 128 128 _ (.inr rfl) (15 + 6 * k + 2) 4 (some ⟨a13, 0, none⟩) 1 1 [su] (15 + 6 * (k : Int) + 2) 4 (by omega) rfl (by decide) (by decide) (by omega) HX1.out _ HBx.bs I1).mono ?_
            rintro e v7 ⟨g8, rfl, hg8, HBn, bn⟩
            have lg8 : gb < g8 := Nat.lt_of_lt_of_le BBx.lt hg8
            have BBn := BBx.next bn
            have tn := Ext.trans t bn
            refine hK.out _ _ ⟨hS.1.next bn, (hS.1.next bn).cell⟩ (fun hS' => ?_)
            clear HBx BBx t I1
            have HBx := HBn
            have BBx := BBn
            have t := tn
            clear HBn BBn tn bn hg8
            clear hK K hS
            have hS := hS'
            clear hS'
            try simp only [Act.put, List.getElem_toArray, List.getElem_cons_zero, List.getElem_cons_succ, List.setIfInBounds_toArray, List.set_cons_zero, List.set_cons_succ]
            refine wpAnyH_ready (rs := [15]) (by kernel_rfl) (by simp) ?_
            refine AllReadyH.cons rfl (fun K hK => ?_) AllReadyH.nil
            rw [if_pos (by rfl)]
            have fB := BBx.free
            have yB := BBx.cell
            go_simp
            refine hK.out _ _ ⟨nbox_else hS.1 (show gr ≠ gb by omega) 0 _, (nbox_else hS.1 (show gr ≠ gb by omega) 0 _).cell⟩ (fun hS' => ?_)
            clear fB yB
            clear hK K hS
            have hS := hS'
            clear hS'
            try simp only [Act.put, List.getElem_toArray, List.getElem_cons_zero, List.getElem_cons_succ, List.setIfInBounds_toArray, List.set_cons_zero, List.set_cons_succ]
            refine wpAnyH_done (by kernel_rfl) ?_ _
            exact wbody_done hA hX hbw ha2 lgx (Nat.le_of_lt ha2) BBx HBx lg8 t HFIN.out
        · rw [if_pos (by rfl)]
          go_simp
          obtain ⟨a13, ha13⟩ : ∃ z : Nat, z = v.heap.size := ⟨_, rfl⟩
          have N1 := Is.new (w := v) a13 ha13 #[.int .i64 (su : Int)] 3 1 [su] rfl rfl
          have HBn : Box (v.alloc (.cells #[.int .i64 (su : Int)] 3)) g _ := ⟨BoxOf.alloc HBx.1 _, HBx.2⟩
          have BBn := BBx.alloc (.cells #[.int .i64 (su : Int)] 3)
          have tn := Ext.alloc t (.cells #[.int .i64 (su : Int)] 3)
          refine hK.out _ _ ⟨hS.1.alloc _, (hS.1.alloc (.cells #[.int .i64 (su : Int)] 3)).cell⟩ (fun hS' => ?_)
          rw [← ha13]
          clear ha13 HBx BBx t
          have HBx := HBn
          have BBx := BBn
          have t := tn
          have I1 := N1
          clear HBn BBn tn N1
          clear hK K hS
          have hS := hS'
          clear hS'
          try simp only [Act.put, List.getElem_toArray, List.getElem_cons_zero, List.getElem_cons_succ, List.setIfInBounds_toArray, List.set_cons_zero, List.set_cons_succ]
          generalize v.alloc (.cells #[.int .i64 (su : Int)] 3) = v8 at *
          refine wpAnyH_ready (rs := [6]) (by kernel_rfl) (by simp) ?_
          refine AllReadyH.cons rfl (fun K hK => ?_) AllReadyH.nil
          rw [if_pos (by rfl)]
          go_simp
          obtain ⟨a6, ha6⟩ : ∃ z : Nat, z = v8.heap.size := ⟨_, rfl⟩
          have N2 := Is.new (w := v8) a6 ha6 #[.int .i64 (sl : Int), .int .i64 1] 3 2 [sl, bareN true] rfl rfl
          have HBn : Box (v8.alloc (.cells #[.int .i64 (sl : Int), .int .i64 1] 3)) g _ := ⟨BoxOf.alloc HBx.1 _, HBx.2⟩
          have BBn := BBx.alloc (.cells #[.int .i64 (sl : Int), .int .i64 1] 3)
          have tn := Ext.alloc t (.cells #[.int .i64 (sl : Int), .int .i64 1] 3)
          have In := I1.alloc (.cells #[.int .i64 (sl : Int), .int .i64 1] 3)
          refine hK.out _ _ ⟨hS.1.alloc _, (hS.1.alloc (.cells #[.int .i64 (sl : Int), .int .i64 1] 3)).cell⟩ (fun hS' => ?_)
          rw [← ha6]
          clear ha6 HBx BBx t I1
          have HBx := HBn
          have BBx := BBn
          have t := tn
          have I1 := In
          have I2 := N2
          clear HBn BBn tn N2 In
          clear hK K hS
          have hS := hS'
          clear hS'
          try simp only [Act.put, List.getElem_toArray, List.getElem_cons_zero, List.getElem_cons_succ, List.setIfInBounds_toArray, List.set_cons_zero, List.set_cons_succ]
          generalize v8.alloc (.cells #[.int .i64 (sl : Int), .int .i64 1] 3) = v9 at *
          refine wpAnyH_ready (rs := [7]) (by kernel_rfl) (by simp) ?_
          refine AllReadyH.cons rfl (fun K hK => ?_) AllReadyH.nil
          rw [if_pos (by rfl)]
          go_simp
          refine (nput_int (some ⟨g, 0, none⟩) 128 128 _ (.inr rfl) (15 + 6 * k) 1 (some ⟨a6, 0, none⟩) 2 2 [sl, bareN true] (15 + 6 * (k : Int)) 1 (by omega) rfl (by decide) (by decide) (by omega) HX2.out _ HBx.bs I2).mono ?_
          rintro e v10 ⟨g7, rfl, hg7, HBn, bn⟩
          have lg7 : gb < g7 := Nat.lt_of_lt_of_le BBx.lt hg7
          have BBn := BBx.next bn
          have tn := Ext.trans t bn
          have In := I1.below bn
          refine hK.out _ _ ⟨hS.1.next bn, (hS.1.next bn).cell⟩ (fun hS' => ?_)
          clear HBx BBx t I2 I1
          have HBx := HBn
          have BBx := BBn
          have t := tn
          have I1 := In
          clear HBn BBn tn bn hg7 In
          clear hK K hS
          have hS := hS'
          clear hS'
          try simp only [Act.put, List.getElem_toArray, List.getElem_cons_zero, List.getElem_cons_succ, List.setIfInBounds_toArray, List.set_cons_zero, List.set_cons_succ]
          refine wpAnyH_ready (rs := [14]) (by kernel_rfl) (by simp) ?_
          refine AllReadyH.cons rfl (fun K hK => ?_) AllReadyH.nil
          rw [if_pos (by rfl)]
          go_simp
          refine (nput_int (some ⟨g7, 0, none⟩) 128 128 _ (.inr rfl) (15 + 6 * k + 2) 4 (some ⟨a13, 0, none⟩) 1 1 [su] (15 + 6 * (k : Int) + 2) 4 (by omega) rfl (by decide) (by decide) (by omega) HX1.out _ HBx.bs I1).mono ?_
          rintro e v11 ⟨g8, rfl, hg8, HBn, bn⟩
          have lg8 : gb < g8 := Nat.lt_of_lt_of_le BBx.lt hg8
          have BBn := BBx.next bn
          have tn := Ext.trans t bn
          refine hK.out _ _ ⟨hS.1.next bn, (hS.1.next bn).cell⟩ (fun hS' => ?_)
          clear HBx BBx t I1
          have HBx := HBn
          have BBx := BBn
          have t := tn
          clear HBn BBn tn bn hg8
          clear hK K hS
          have hS := hS'
          clear hS'
          try simp only [Act.put, List.getElem_toArray, List.getElem_cons_zero, List.getElem_cons_succ, List.setIfInBounds_toArray, List.set_cons_zero, List.set_cons_succ]
          refine wpAnyH_ready (rs := [15]) (by kernel_rfl) (by simp) ?_
          refine AllReadyH.cons rfl (fun K hK => ?_) AllReadyH.nil
          rw [if_pos (by rfl)]
          have fB := BBx.free
          have yB := BBx.cell
          go_simp
          refine hK.out _ _ ⟨nbox_else hS.1 (show gr ≠ gb by omega) 0 _, (nbox_else hS.1 (show gr ≠ gb by omega) 0 _).cell⟩ (fun hS' => ?_)
          clear fB yB
          clear hK K hS
          have hS := hS'
          clear hS'
          try simp only [Act.put, List.getElem_toArray, List.getElem_cons_zero, List.getElem_cons_succ, List.setIfInBounds_toArray, List.set_cons_zero, List.set_cons_succ]
          refine wpAnyH_done (by kernel_rfl) ?_ _
          exact wbody_done hA hX hbw ha2 lgx (Nat.le_of_lt ha2) BBx HBx lg8 t HFIN.out
      · rw [if_pos (by rfl)]
        go_simp
        obtain ⟨a6, ha6⟩ : ∃ z : Nat, z = v.heap.size := ⟨_, rfl⟩
        have N2 := Is.new (w := v) a6 ha6 #[.int .i64 (sl : Int), .int .i64 1] 3 2 [sl, bareN true] rfl rfl
        have HBn : Box (v.alloc (.cells #[.int .i64 (sl : Int), .int .i64 1] 3)) g _ := ⟨BoxOf.alloc HBx.1 _, HBx.2⟩
        have BBn := BBx.alloc (.cells #[.int .i64 (sl : Int), .int .i64 1] 3)
        have tn := Ext.alloc t (.cells #[.int .i64 (sl : Int), .int .i64 1] 3)
        refine hK.out _ _ ⟨hS.1.alloc _, (hS.1.alloc (.cells #[.int .i64 (sl : Int), .int .i64 1] 3)).cell⟩ (fun hS' => ?_)
        rw [← ha6]
        clear ha6 HBx BBx t
        have HBx := HBn
        have BBx := BBn
        have t := tn
        have I2 := N2
        clear HBn BBn tn N2
        clear hK K hS
        have hS := hS'
        clear hS'
        try simp only [Act.put, List.getElem_toArray, List.getElem_cons_zero, List.getElem_cons_succ, List.setIfInBounds_toArray, List.set_cons_zero, List.set_cons_succ]
        generalize v.alloc (.cells #[.int .i64 (sl : Int), .int .i64 1] 3) = v12 at *
        refine wpAnyH_ready (rs := [0, 13]) (by kernel_rfl) (by simp) ?_
        refine AllReadyH.cons rfl (fun K hK => ?_) (AllReadyH.cons rfl (fun K hK => ?_) (AllReadyH.nil))
        · rw [if_pos (by rfl)]
          have yB := BBx.cell
          go_simp
          refine hK.out _ _ hS (fun hS' => ?_)
          clear yB
          clear hK K hS
          have hS := hS'
          clear hS'
          try simp only [Act.put, List.getElem_toArray, List.getElem_cons_zero, List.getElem_cons_succ, List.setIfInBounds_toArray, List.set_cons_zero, List.set_cons_succ]
          refine wpAnyH_ready (rs := [7, 13]) (by kernel_rfl) (by simp) ?_
          refine AllReadyH.cons rfl (fun K hK => ?_) (AllReadyH.cons rfl (fun K hK => ?_) (AllReadyH.nil))
          · rw [if_pos (by rfl)]
            go_simp
            refine (nput_int (some ⟨g, 0, none⟩) 128 128 _ (.inr rfl) (15 + 6 * k) 1 (some ⟨a6, 0, none⟩) 2 2 [sl, bareN true] (15 + 6 * (k : Int)) 1 (by omega) rfl (by decide) (by decide) (by omega) HX2.out _ HBx.bs I2).mono ?_
            rintro e v13 ⟨g7, rfl, hg7, HBn, bn⟩
            have lg7 : gb < g7 := Nat.lt_of_lt_of_le BBx.lt hg7
            have BBn := BBx.next bn
            have tn := Ext.trans t bn
            refine hK.out _ _ ⟨hS.1.next bn, (hS.1.next bn).cell⟩ (fun hS' => ?_)
            clear HBx BBx t I2
            have HBx := HBn
            have BBx := BBn
            have t := tn
            clear HBn BBn tn bn hg7
            clear hK K hS
            have hS := hS'
            clear hS'
            try simp only [Act.put, List.getElem_toArray, List.getElem_cons_zero, List.getElem_cons_succ, List.setIfInBounds_toArray, List.set_cons_zero, List.set_cons_succ]
            refine wpAnyH_ready (rs := [13]) (by kernel_rfl) (by simp) ?_
            refine AllReadyH.cons rfl (fun K hK => ?_) AllReadyH.nil
            rw [if_pos (by rfl)]
            go_simp
            obtain ⟨a13, ha13⟩ : ∃ z : Nat, z = v13.heap.size := ⟨_, rfl⟩
            have N1 := Is.new (w := v13) a13 ha13 #[.int .i64 (su : Int)] 3 1 [su] rfl rfl
            have HBn : Box (v13.alloc (.cells #[.int .i64 (su : Int)] 3)) g7 _ := ⟨BoxOf.alloc HBx.1 _, HBx.2⟩
            have BBn := BBx.alloc (.cells #[.int .i64 (su : Int)] 3)
            have tn := Ext.alloc t (.cells #[.int .i64 (su : Int)] 3)
            refine hK.out _ _ ⟨hS.1.alloc _, (hS.1.alloc (.cells #[.int .i64 (su : Int)] 3)).cell⟩ (fun hS' => ?_)
            rw [← ha13]
            clear ha13 HBx BBx t
            have HBx := HBn
            have BBx := BBn
            have t := tn
            have I1 := N1
            clear HBn BBn tn N1
            clear hK K hS
            have hS := hS'
            clear hS'
            try simp only [Act.put, List.getElem_toArray, List.getElem_cons_zero, List.getElem_cons_succ, List.setIfInBounds_toArray, List.set_cons_zero, List.set_cons_succ]
            generalize v13.alloc (.cells #[.int .i64 (su : Int)] 3) = v14 at *
            refine wpAnyH_ready (rs := [14]) (by kernel_rfl) (by simp) ?_
            refine AllReadyH.cons rfl (fun K hK => ?_) AllReadyH.nil
            rw [if_pos (by rfl)]
            go_simp
            refine (nput_int (some ⟨g7, 0, none⟩) 128 128 _ (.inr rfl) (15 + 6 * k + 2) 4 (some ⟨a13, 0, none⟩) 1 1 [su] (15 + 6 * (k : Int) + 2) 4 (by omega) rfl (by decide) (by decide) (by omega) HX1.out _ HBx.bs I1).mono ?_
            rintro e v15 ⟨g8, rfl, hg8, HBn, bn⟩
            have lg8 : gb < g8 := Nat.lt_of_lt_of_le BBx.lt hg8
            have BBn := BBx.next bn
            have tn := Ext.trans t bn
            refine hK.out _ _ ⟨hS.1.next bn, (hS.1.next bn).cell⟩ (fun hS' => ?_)
            clear HBx BBx t I1
            have HBx := HBn
            have BBx := BBn
            have t := tn
            clear HBn BBn tn bn hg8
            clear hK K hS
            have hS := hS'
            clear hS'
            try simp only [Act.put, List.getElem_toArray, List.getElem_cons_zero, List.getElem_cons_succ, List.setIfInBounds_toArray, List.set_cons_zero, List.set_cons_succ]
            refine wpAnyH_ready (rs := [15]) (by kernel_rfl) (by simp) ?_
            refine AllReadyH.cons rfl (fun K hK => ?_) AllReadyH.nil
            rw [if_pos (by rfl)]
            have fB := BBx.free
            have yB := BBx.cell
            go_simp
            refine hK.out _ _ ⟨nbox_else hS.1 (show gr ≠ gb by omega) 0 _, (nbox_else hS.1 (show gr ≠ gb by omega) 0 _).cell⟩ (fun hS' => ?_)
            clear fB yB
            clear hK K hS
            have hS := hS'
            clear hS'
            try simp only [Act.put, List.getElem_toArray, List.getElem_cons_zero, List.getElem_cons_succ, List.setIfInBounds_toArray, List.set_cons_zero, List.set_cons_succ]
            refine wpAnyH_done (by kernel_rfl) ?_ _
            exact wbody_done hA hX hbw ha2 lgx (Nat.le_of_lt ha2) BBx HBx lg8 t HFIN.out
          · rw [if_pos (by rfl)]
            go_simp
            obtain ⟨a13, ha13⟩ : ∃ z : Nat, z = v12.heap.size := ⟨_, rfl⟩
            have N1 := Is.new (w := v12) a13 ha13 #[.int .i64 (su : Int)] 3 1 [su] rfl rfl
            have HBn : Box (v12.alloc (.cells #[.int .i64 (su : Int)] 3)) g _ := ⟨BoxOf.alloc HBx.1 _, HBx.2⟩
            have BBn := BBx.alloc (.cells #[.int .i64 (su : Int)] 3)
            have tn := Ext.alloc t (.cells #[.int .i64 (su : Int)] 3)
            have In := I2.alloc (.cells #[.int .i64 (su : Int)] 3)
            refine hK.out _ _ ⟨hS.1.alloc _, (hS.1.alloc (.cells #[.int .i64 (su : Int)] 3)).cell⟩ (fun hS' => ?_)
            rw [← ha13]
            clear ha13 HBx BBx t I2
            have HBx := HBn
            have BBx := BBn
            have t := tn
            have I2 := In
            have I1 := N1
            clear HBn BBn tn N1 In
            clear hK K hS
            have hS := hS'
            clear hS'
            try simp only [Act.put, List.getElem_toArray, List.getElem_cons_zero, List.getElem_cons_succ, List.setIfInBounds_toArray, List.set_cons_zero, List.set_cons_succ]
            generalize v12.alloc (.cells #[.int .i64 (su : Int)] 3) = v16 at *
            refine wpAnyH_ready (rs := [7]) (by kernel_rfl) (by simp) ?_
            refine AllReadyH.cons rfl (fun K hK => ?_) AllReadyH.nil
            rw [if_pos (by rfl)]
            go_simp
            refine (nput_int (some ⟨g, 0, none⟩) 128 128 _ (.inr rfl) (15 + 6 * k) 1 (some ⟨a6, 0, none⟩) 2 2 [sl, bareN true] (15 + 6 * (k : Int)) 1 (by omega) rfl (by decide) (by decide) (by omega) HX2.out _ HBx.bs I2).mono ?_
            rintro e v17 ⟨g7, rfl, hg7, HBn, bn⟩
            have lg7 : gb < g7 := Nat.lt_of_lt_of_le BBx.lt hg7
            have BBn := BBx.next bn
            have tn := Ext.trans t bn
            have In := I1.below bn
            refine hK.out _ _ ⟨hS.1.next bn, (hS.1.next bn).cell⟩ (fun hS' => ?_)
            clear HBx BBx t I2 I1
            have HBx := HBn
            have BBx := BBn
            have t := tn
            have I1 := In
            clear HBn BBn tn bn hg7 In
            clear hK K hS
            have hS := hS'
            clear hS'
            try simp only [Act.put, List.getElem_toArray, List.getElem_cons_zero, List.getElem_cons_succ, List.setIfInBounds_toArray, List.set_cons_zero, List.set_cons_succ]
            refine wpAnyH_ready (rs := [14]) (by kernel_rfl) (by simp) ?_
            refine AllReadyH.cons rfl (fun K hK => ?_) AllReadyH.nil
            rw [if_pos (by rfl)]
            go_simp
            refine (nput_int (some ⟨g7, 0, none⟩) 128 128 _ (.inr rfl) (15 + 6 * k + 2) 4 (some ⟨a13, 0, none⟩) 1 1 [su] (15 + 6 * (k : Int) + 2) 4 (by omega) rfl (by decide) (by decide) (by omega) HX1.out _ HBx.bs I1).mono ?_
            rintro e v18 ⟨g8, rfl, hg8, HBn, bn⟩
            have lg8 : gb < g8 := Nat.lt_of_lt_of_le BBx.lt hg8
            have BBn := BBx.next bn
            have tn := Ext.trans t bn
            refine hK.out _ _ ⟨hS.1.next bn, (hS.1.next bn).cell⟩ (fun hS' => ?_)
            clear HBx BBx t I1
            have HBx := HBn
            have BBx := BBn
            have t := tn
            clear HBn BBn tn bn hg8
            clear hK K hS
            have hS := hS'
            clear hS'
            try simp only [Act.put, List.getElem_toArray, List.getElem_cons_zero, List.getElem_cons_succ, List.setIfInBounds_toArray, List.set_cons_zero, List.set_cons_succ]
            refine wpAnyH_ready (rs := [15]) (by kernel_rfl) (by simp) ?_
            refine AllReadyH.cons rfl (fun K hK => ?_) AllReadyH.nil
            rw [if_pos (by rfl)]
            have fB := BBx.free
            have yB := BBx.cell
            go_simp
            refine hK.out _ _ ⟨nbox_else hS.1 (show gr ≠ gb by omega) 0 _, (nbox_else hS.1 (show gr ≠ gb by omega) 0 _).cell⟩ (fun hS' => ?_)
            clear fB yB
            clear hK K hS
            have hS := hS'
            clear hS'
            try simp only [Act.put, List.getElem_toArray, List.getElem_cons_zero, List.getElem_cons_succ, List.setIfInBounds_toArray, List.set_cons_zero, List.set_cons_succ]
            refine wpAnyH_done (by kernel_rfl) ?_ _
            exact wbody_done hA hX hbw ha2 lgx (Nat.le_of_lt ha2) BBx HBx lg8 t HFIN.out
        · rw [if_pos (by rfl)]
          go_simp
          obtain ⟨a13, ha13⟩ : ∃ z : Nat, z = v12.heap.size := ⟨_, rfl⟩
          have N1 := Is.new (w := v12) a13 ha13 #[.int .i64 (su : Int)] 3 1 [su] rfl rfl
          have HBn : Box (v12.alloc (.cells #[.int .i64 (su : Int)] 3)) g _ := ⟨BoxOf.alloc HBx.1 _, HBx.2⟩
          have BBn := BBx.alloc (.cells #[.int .i64 (su : Int)] 3)
          have tn := Ext.alloc t (.cells #[.int .i64 (su : Int)] 3)
          have In := I2.alloc (.cells #[.int .i64 (su : Int)] 3)
          refine hK.out _ _ ⟨hS.1.alloc _, (hS.1.alloc (.cells #[.int .i64 (su : Int)] 3)).cell⟩ (fun hS' => ?_)
          rw [← ha13]
          clear ha13 HBx BBx t I2
          have HBx := HBn
          have BBx := BBn
          have t := tn
          have I2 := In
          have I1 := N1
          clear HBn BBn tn N1 In
          clear hK K hS
          have hS := hS'
          clear hS'
          try simp only [Act.put, List.getElem_toArray, List.getElem_cons_zero, List.getElem_cons_succ, List.setIfInBounds_toArray, List.set_cons_zero, List.set_cons_succ]
          generalize v12.alloc (.cells #[.int .i64 (su : Int)] 3) = v19 at *
          refine wpAnyH_ready (rs := [0]) (by kernel_rfl) (by simp) ?_
          refine AllReadyH.cons rfl (fun K hK => ?_) AllReadyH.nil
          rw [if_pos (by rfl)]
          have yB := BBx.cell
          go_simp
          refine hK.out _ _ hS (fun hS' => ?_)
          clear yB
          clear hK K hS
          have hS := hS'
          clear hS'
          try simp only [Act.put, List.getElem_toArray, List.getElem_cons_zero, List.getElem_cons_succ, List.setIfInBounds_toArray, List.set_cons_zero, List.set_cons_succ]
          refine wpAnyH_ready (rs := [7]) (by kernel_rfl) (by simp) ?_
          refine AllReadyH.cons rfl (fun K hK => ?_) AllReadyH.nil
          rw [if_pos (by rfl)]
          go_simp
          refine (nput_int (some ⟨g, 0, none⟩) 128 128 _ (.inr rfl) (15 + 6 * k) 1 (some ⟨a6, 0, none⟩) 2 2 [sl, bareN true] (15 + 6 * (k : Int)) 1 (by omega) rfl (by decide) (by decide) (by omega) HX2.out _ HBx.bs I2).mono ?_
          rintro e v20 ⟨g7, rfl, hg7, HBn, bn⟩
          have lg7 : gb < g7 := Nat.lt_of_lt_of_le BBx.lt hg7
          have BBn := BBx.next bn
          have tn := Ext.trans t bn
          have In := I1.below bn
          refine hK.out _ _ ⟨hS.1.next bn, (hS.1.next bn).cell⟩ (fun hS' => ?_)
          clear HBx BBx t I2 I1
          have HBx := HBn
          have BBx := BBn
          have t := tn
          have I1 := In
          clear HBn BBn tn bn hg7 In
          clear hK K hS
          have hS := hS'
          clear hS'
          try simp only [Act.put, List.getElem_toArray, List.getElem_cons_zero, List.getElem_cons_succ, List.setIfInBounds_toArray, List.set_cons_zero, List.set_cons_succ]
          refine wpAnyH_ready (rs := [14]) (by kernel_rfl) (by simp) ?_
          refine AllReadyH.cons rfl (fun K hK => ?_) AllReadyH.nil
          rw [if_pos (by rfl)]
          go_simp
          refine (nput_int (some ⟨g7, 0, none⟩) 128 128 _ (.inr rfl) (15 + 6 * k + 2) 4 (some ⟨a13, 0, none⟩) 1 1 [su] (15 + 6 * (k : Int) + 2) 4 (by omega) rfl (by decide) (by decide) (by omega) HX1.out _ HBx.bs I1).mono ?_
          rintro e v21 ⟨g8, rfl, hg8, HBn, bn⟩
          have lg8 : gb < g8 := Nat.lt_of_lt_of_le BBx.lt hg8
          have BBn := BBx.next bn
          have tn := Ext.trans t bn
          refine hK.out _ _ ⟨hS.1.next bn, (hS.1.next bn).cell⟩ (fun hS' => ?_)
          clear HBx BBx t I1
          have HBx := HBn
          have BBx := BBn
          have t := tn
          clear HBn BBn tn bn hg8
          clear hK K hS
          have hS := hS'
          clear hS'
          try simp only [Act.put, List.getElem_toArray, List.getElem_cons_zero, List.getElem_cons_succ, List.setIfInBounds_toArray, List.set_cons_zero, List.set_cons_succ]
          refine wpAnyH_ready (rs := [15]) (by kernel_rfl) (by simp) ?_
          refine AllReadyH.cons rfl (fun K hK => ?_) AllReadyH.nil
          rw [if_pos (by rfl)]
          have fB := BBx.free
          have yB := BBx.cell
          go_simp
          refine hK.out _ _ ⟨nbox_else hS.1 (show gr ≠ gb by omega) 0 _, (nbox_else hS.1 (show gr ≠ gb by omega) 0 _).cell⟩ (fun hS' => ?_)
          clear fB yB
          clear hK K hS
          have hS := hS'
          clear hS'
          try simp only [Act.put, List.getElem_toArray, List.getElem_cons_zero, List.getElem_cons_succ, List.setIfInBounds_toArray, List.set_cons_zero, List.set_cons_succ]
          refine wpAnyH_done (by kernel_rfl) ?_ _
          exact wbody_done hA hX hbw ha2 lgx (Nat.le_of_lt ha2) BBx HBx lg8 t HFIN.out
      · rw [if_pos (by rfl)]
        go_simp
        obtain ⟨a13, ha13⟩ : ∃ z : Nat, z = v.heap.size := ⟨_, rfl⟩
        have N1 := Is.new (w := v) a13 ha13 #[.int .i64 (su : Int)] 3 1 [su] rfl rfl
        have HBn : Box (v.alloc (.cells #[.int .i64 (su : Int)] 3)) g _ := ⟨BoxOf.alloc HBx.1 _, HBx.2⟩
        have BBn := BBx.alloc (.cells #[.int .i64 (su : Int)] 3)
        have tn := Ext.alloc t (.cells #[.int .i64 (su : Int)] 3)
        refine hK.out _ _ ⟨hS.1.alloc _, (hS.1.alloc (.cells #[.int .i64 (su : Int)] 3)).cell⟩ (fun hS' => ?_)
        rw [← ha13]
        clear ha13 HBx BBx t
        have HBx := HBn
        have BBx := BBn
        have t := tn
        have I1 := N1
        clear HBn BBn tn N1
        clear hK K hS
        have hS := hS'
        clear hS'
        try simp only [Act.put, List.getElem_toArray, List.getElem_cons_zero, List.getElem_cons_succ, List.setIfInBounds_toArray, List.set_cons_zero, List.set_cons_succ]
        generalize v.alloc (.cells #[.int .i64 (su : Int)] 3) = v22 at *
        refine wpAnyH_ready (rs := [0, 6]) (by kernel_rfl) (by simp) ?_
        refine AllReadyH.cons rfl (fun K hK => ?_) (AllReadyH.cons rfl (fun K hK => ?_) (AllReadyH.nil))
        · rw [if_pos (by rfl)]
          have yB := BBx.cell
          go_simp
          refine hK.out _ _ hS (fun hS' => ?_)
          clear yB
          clear hK K hS
          have hS := hS'
          clear hS'
          try simp only [Act.put, List.getElem_toArray, List.getElem_cons_zero, List.getElem_cons_succ, List.setIfInBounds_toArray, List.set_cons_zero, List.set_cons_succ]
          refine wpAnyH_ready (rs := [6]) (by kernel_rfl) (by simp) ?_
          refine AllReadyH.cons rfl (fun K hK => ?_) AllReadyH.nil
          rw [if_pos (by rfl)]
          go_simp
          obtain ⟨a6, ha6⟩ : ∃ z : Nat, z = v22.heap.size := ⟨_, rfl⟩
          have N2 := Is.new (w := v22) a6 ha6 #[.int .i64 (sl : Int), .int .i64 1] 3 2 [sl, bareN true] rfl rfl
          have HBn : Box (v22.alloc (.cells #[.int .i64 (sl : Int), .int .i64 1] 3)) g _ := ⟨BoxOf.alloc HBx.1 _, HBx.2⟩
          have BBn := BBx.alloc (.cells #[.int .i64 (sl : Int), .int .i64 1] 3)
          have tn := Ext.alloc t (.cells #[.int .i64 (sl : Int), .int .i64 1] 3)
          have In := I1.alloc (.cells #[.int .i64 (sl : Int), .int .i64 1] 3)
          refine hK.out _ _ ⟨hS.1.alloc _, (hS.1.alloc (.cells #[.int .i64 (sl : Int), .int .i64 1] 3)).cell⟩ (fun hS' => ?_)
          rw [← ha6]
          clear ha6 HBx BBx t I1
          have HBx := HBn
          have BBx := BBn
          have t := tn
          have I1 := In
          have I2 := N2
          clear HBn BBn tn N2 In
          clear hK K hS
          have hS := hS'
          clear hS'
          try simp only [Act.put, List.getElem_toArray, List.getElem_cons_zero, List.getElem_cons_succ, List.setIfInBounds_toArray, List.set_cons_zero, List.set_cons_succ]
          generalize v22.alloc (.cells #[.int .i64 (sl : Int), .int .i64 1] 3) = v23 at *
          refine wpAnyH_ready (rs := [7]) (by kernel_rfl) (by simp) ?_
          refine AllReadyH.cons rfl (fun K hK => ?_) AllReadyH.nil
          rw [if_pos (by rfl)]
          go_simp
          refine (nput_int (some ⟨g, 0, none⟩) 128 128 _ (.inr rfl) (15 + 6 * k) 1 (some ⟨a6, 0, none⟩) 2 2 [sl, bareN true] (15 + 6 * (k : Int)) 1 (by omega) rfl (by decide) (by decide) (by omega) HX2.out _ HBx.bs I2).mono ?_
          rintro e v24 ⟨g7, rfl, hg7, HBn, bn⟩
          have lg7 : gb < g7 := Nat.lt_of_lt_of_le BBx.lt hg7
          have BBn := BBx.next bn
          have tn := Ext.trans t bn
          have In := I1.below bn
          refine hK.out _ _ ⟨hS.1.next bn, (hS.1.next bn).cell⟩ (fun hS' => ?_)
          clear HBx BBx t I2 I1
          have HBx := HBn
          have BBx := BBn
          have t := tn
          have I1 := In
          clear HBn BBn tn bn hg7 In
          clear hK K hS
          have hS := hS'
          clear hS'
          try simp only [Act.put, List.getElem_toArray, List.getElem_cons_zero, List.getElem_cons_succ, List.setIfInBounds_toArray, List.set_cons_zero, List.set_cons_succ]
          refine wpAnyH_ready (rs := [14]) (by kernel_rfl) (by simp) ?_
          refine AllReadyH.cons rfl (fun K hK => ?_) AllReadyH.nil
          rw [if_pos (by rfl)]
          go_simp
          refine (nput_int (some ⟨g7, 0, none⟩) 128 128 _ (.inr rfl) (15 + 6 * k + 2) 4 (some ⟨a13, 0, none⟩) 1 1 [su] (15 + 6 * (k : Int) + 2) 4 (by omega) rfl (by decide) (by decide) (by omega) HX1.out _ HBx.bs I1).mono ?_
          rintro e v25 ⟨g8, rfl, hg8, HBn, bn⟩
          have lg8 : gb < g8 := Nat.lt_of_lt_of_le BBx.lt hg8
          have BBn := BBx.next bn
          have tn := Ext.trans t bn
          refine hK.out _ _ ⟨hS.1.next bn, (hS.1.next bn).cell⟩ (fun hS' => ?_)
          clear HBx BBx t I1
          have HBx := HBn
          have BBx := BBn
          have t := tn
          clear HBn BBn tn bn hg8
          clear hK K hS
          have hS := hS'
          clear hS'
          try simp only [Act.put, List.getElem_toArray, List.getElem_cons_zero, List.getElem_cons_succ, List.setIfInBounds_toArray, List.set_cons_zero, List.set_cons_succ]
          refine wpAnyH_ready (rs := [15]) (by kernel_rfl) (by simp) ?_
          refine AllReadyH.cons rfl (fun K hK => ?_) AllReadyH.nil
          rw [if_pos (by rfl)]
          have fB := BBx.free
          have yB := BBx.cell
          go_simp
          refine hK.out _ _ ⟨nbox_else hS.1 (show gr ≠ gb by omega) 0 _, (nbox_else hS.1 (show gr ≠ gb by omega) 0 _).cell⟩ (fun hS' => ?_)
          clear fB yB
          clear hK K hS
          have hS := hS'
          clear hS'
          try simp only [Act.put, List.getElem_toArray, List.getElem_cons_zero, List.getElem_cons_succ, List.setIfInBounds_toArray, List.set_cons_zero, List.set_cons_succ]
          refine wpAnyH_done (by kernel_rfl) ?_ _
          exact wbody_done hA hX hbw ha2 lgx (Nat.le_of_lt ha2) BBx HBx lg8 t HFIN.out
        · rw [if_pos (by rfl)]
          go_simp
          obtain ⟨a6, ha6⟩ : ∃ z : Nat, z = v22.heap.size := ⟨_, rfl⟩
          have N2 := Is.new (w := v22) a6 ha6 #[.int .i64 (sl : Int), .int .i64 1] 3 2 [sl, bareN true] rfl rfl
          have HBn : Box (v22.alloc (.cells #[.int .i64 (sl : Int), .int .i64 1] 3)) g _ := ⟨BoxOf.alloc HBx.1 _, HBx.2⟩
          have BBn := BBx.alloc (.cells #[.int .i64 (sl : Int), .int .i64 1] 3)
          have tn := Ext.alloc t (.cells #[.int .i64 (sl : Int), .int .i64 1] 3)
          have In := I1.alloc (.cells #[.int .i64 (sl : Int), .int .i64 1] 3)
          refine hK.out _ _ ⟨hS.1.alloc _, (hS.1.alloc (.cells #[.int .i64 (sl : Int), .int .i64 1] 3)).cell⟩ (fun hS' => ?_)
          rw [← ha6]
          clear ha6 HBx BBx t I1
          have HBx := HBn
          have BBx := BBn
          have t := tn
          have I1 := In
          have I2 := N2
          clear HBn BBn tn N2 In
          clear hK K hS
          have hS := hS'
          clear hS'
          try simp only [Act.put, List.getElem_toArray, List.getElem_cons_zero, List.getElem_cons_succ, List.setIfInBounds_toArray, List.set_cons_zero, List.set_cons_succ]
          generalize v22.alloc (.cells #[.int .i64 (sl : Int), .int .i64 1] 3) = v26 at *
          refine wpAnyH_ready (rs := [0]) (by kernel_rfl) (by simp) ?_
          refine AllReadyH.cons rfl (fun K hK => ?_) AllReadyH.nil
          rw [if_pos (by rfl)]
          have yB := BBx.cell
          go_simp
          refine hK.out _ _ hS (fun hS' => ?_)
          clear yB
          clear hK K hS
          have hS := hS'
          clear hS'
          try simp only [Act.put, List.getElem_toArray, List.getElem_cons_zero, List.getElem_cons_succ, List.setIfInBounds_toArray, List.set_cons_zero, List.set_cons_succ]
          refine wpAnyH_ready (rs := [7]) (by kernel_rfl) (by simp) ?_
          refine AllReadyH.cons rfl (fun K hK => ?_) AllReadyH.nil
          rw [if_pos (by rfl)]
          go_simp
          refine (nput_int (some ⟨g, 0, none⟩) 128 128 _ (.inr rfl) (15 + 6 * k) 1 (some ⟨a6, 0, none⟩) 2 2 [sl, bareN true] (15 + 6 * (k : Int)) 1 (by omega) rfl (by decide) (by decide) (by omega) HX2.out _ HBx.bs I2).mono ?_
          rintro e v27 ⟨g7, rfl, hg7, HBn, bn⟩
          have lg7 : gb < g7 := Nat.lt_of_lt_of_le BBx.lt hg7
          have BBn := BBx.next bn
          have tn := Ext.trans t bn
          have In := I1.below bn
          refine hK.out _ _ ⟨hS.1.next bn, (hS.1.next bn).cell⟩ (fun hS' => ?_)
          clear HBx BBx t I2 I1
          have HBx := HBn
          have BBx := BBn
          have t := tn
          have I1 := In
          clear HBn BBn tn bn hg7 In
          clear hK K hS
          have hS := hS'
          clear hS'
          try simp only [Act.put, List.getElem_toArray, List.getElem_cons_zero, List.getElem_cons_succ, List.setIfInBounds_toArray, List.set_cons_zero, List.set_cons_succ]
          refine wpAnyH_ready (rs := [14]) (by kernel_rfl) (by simp) ?_
          refine AllReadyH.cons rfl (fun K hK => ?_) AllReadyH.nil
          rw [if_pos (by rfl)]
          go_simp
          refine (nput_int (some ⟨g7, 0, none⟩) 128 128 _ (.inr rfl) (15 + 6 * k + 2) 4 (some ⟨a13, 0, none⟩) 1 1 [su] (15 + 6 * (k : Int) + 2) 4 (by omega) rfl (by decide) (by decide) (by omega) HX1.out _ HBx.bs I1).mono ?_
          rintro e v28 ⟨g8, rfl, hg8, HBn, bn⟩
          have lg8 : gb < g8 := Nat.lt_of_lt_of_le BBx.lt hg8
          have BBn := BBx.next bn
          have tn := Ext.trans t bn
          refine hK.out _ _ ⟨hS.1.next bn, (hS.1.next bn).cell⟩ (fun hS' => ?_)
          clear HBx BBx t I1
          have HBx := HBn
          have BBx := BBn
          have t := tn
          clear HBn BBn tn bn hg8
          clear hK K hS
          have hS := hS'
          clear hS'
          try simp only [Act.put, List.getElem_toArray, List.getElem_cons_zero, List.getElem_cons_succ, List.setIfInBounds_toArray, List.set_cons_zero, List.set_cons_succ]
          refine wpAnyH_ready (rs := [15]) (by kernel_rfl) (by simp) ?_
          refine AllReadyH.cons rfl (fun K hK => ?_) AllReadyH.nil
          rw [if_pos (by rfl)]
          have fB := BBx.free
          have yB := BBx.cell
          go_simp
          refine hK.out _ _ ⟨nbox_else hS.1 (show gr ≠ gb by omega) 0 _, (nbox_else hS.1 (show gr ≠ gb by omega) 0 _).cell⟩ (fun hS' => ?_)
          clear fB yB
          clear hK K hS
          have hS := hS'
          clear hS'
          try simp only [Act.put, List.getElem_toArray, List.getElem_cons_zero, List.getElem_cons_succ, List.setIfInBounds_toArray, List.set_cons_zero, List.set_cons_succ]
          refine wpAnyH_done (by kernel_rfl) ?_ _
          exact wbody_done hA hX hbw ha2 lgx (Nat.le_of_lt ha2) BBx HBx lg8 t HFIN.out
  case done =>
    rintro D xs W hD rfl ⟨⟨hA, hX, g, hg, hB, hH⟩, hbw⟩ hDW
    obtain ⟨L, hLdef⟩ : ∃ L, L = putsL (noteRows id age sq st rs) := ⟨_, rfl⟩
    have hH2 : Box W g L := by rw [hLdef, ← notesEq id age sq st rs n hlen]; exact hH
    have HLD := Lib.hid hLdef
    have hL : L.length = 128 := hH2.bs.1
    have hsum : Crc.sum (L.take 124) < 256 ^ 4 := Crc.sum_lt _
    have HSM := Lib.hid hsum
    have q1 : IntKind.i64.wrap ((Crc.sum (L.take 124) : Nat) : Int) = ((Crc.sum (L.take 124) : Nat) : Int) := IntWalk.i64_in _ (by have := Crc.sum_lt (L.take 124); omega)
    have HDW := Lib.hid hDW
    have hDlt : D < W.heap.size := (Array.getElem?_eq_some_iff.1 hDW).1
    clear hH hX hA hsum hLdef hDW
    gi_wp2_with fail
    refine wpIn_wide.2 (only_wp ?_)
    refine wp_region_held_drew (S := fun w' => Below W.heap.size W w' ∧ BoxOf w' gb #[.slice (some ⟨g, 0, none⟩) 128 128] 32 ∧ Box w' g L ∧ ∀ o, w'.cell? ⟨gb, o, none⟩ = (#[.slice (some ⟨g, 0, none⟩) 128 128] : Array Value).toList[o]?) (by kernel_rfl) ⟨Ext.drew (Below.refl _ _), BoxOf.drew hB, ⟨BoxOf.drew hH2.1, hH2.2⟩, (BoxOf.drew hB).cell⟩ (fun hS => ?_)
    clear hB hH2
    generalize W.drew = v at *
    refine wpAnyH_take (i := 0) (oi := _) (v := ?_) rfl (by kernel_rfl) (by kernel_rfl) (by kernel_rfl) (fun _ _ _ h => h) (Or.inl ⟨by rfl, ?_⟩) hS ?_
    rotate_left
    · (intro w hSw; (try dsimp only at hSw); go_simp; (try with_reducible rfl))
    rotate_left
    simp only [Act.put, List.getElem_toArray, List.getElem_cons_zero, List.getElem_cons_succ, List.setIfInBounds_toArray, List.set_cons_zero, List.set_cons_succ]
    refine wpAnyH_take (i := 1) (oi := _) (v := ?_) rfl (by kernel_rfl) (by kernel_rfl) (by kernel_rfl) (fun _ _ _ h => h) (Or.inl ⟨by rfl, ?_⟩) hS ?_
    rotate_left
    · (intro w hSw; (try dsimp only at hSw); go_simp; (try with_reducible rfl))
    rotate_left
    simp only [Act.put, List.getElem_toArray, List.getElem_cons_zero, List.getElem_cons_succ, List.setIfInBounds_toArray, List.set_cons_zero, List.set_cons_succ]
    refine wpAnyH_take (i := 2) (oi := _) (v := ?_) rfl (by kernel_rfl) (by kernel_rfl) (by kernel_rfl) (fun _ _ _ h => h) (Or.inl ⟨by rfl, ?_⟩) hS ?_
    rotate_left
    · (intro w hSw; (try dsimp only at hSw); go_simp; (try with_reducible rfl))
    rotate_left
    simp only [Act.put, List.getElem_toArray, List.getElem_cons_zero, List.getElem_cons_succ, List.setIfInBounds_toArray, List.set_cons_zero, List.set_cons_succ]
    refine wpAnyH_ready (rs := [3]) (by kernel_rfl) (by simp) ?_
    refine AllReadyH.cons rfl (fun K hK => ?_) AllReadyH.nil
    rw [if_pos (by rfl)]
    go_simp
    refine (sum_any _ 124 _ (L.take 124) _ (hS.2.2.1.bs.first' 124 (by omega)) (by omega)).mono ?_
    rintro e v1 ⟨rfl, b1⟩
    refine hK.out _ _ ⟨Ext.trans hS.1 b1, hS.2.1.next b1, ⟨BoxOf.next hS.2.2.1.1 b1, hS.2.2.1.2⟩, (hS.2.1.next b1).cell⟩ (fun hS' => ?_)
    clear hK K hS b1
    have hS := hS'
    clear hS'
    try simp only [Act.put, List.getElem_toArray, List.getElem_cons_zero, List.getElem_cons_succ, List.setIfInBounds_toArray, List.set_cons_zero, List.set_cons_succ]
    refine wpAnyH_take (i := 4) (oi := _) (v := ?_) rfl (by kernel_rfl) (by kernel_rfl) (by kernel_rfl) (fun _ _ _ h => h) (Or.inl ⟨by rfl, ?_⟩) hS ?_
    rotate_left
    · (intro w hSw; (try dsimp only at hSw); go_simp; (try with_reducible rfl))
    rotate_left
    simp only [Act.put, List.getElem_toArray, List.getElem_cons_zero, List.getElem_cons_succ, List.setIfInBounds_toArray, List.set_cons_zero, List.set_cons_succ]
    clear q1
    refine wpAnyH_ready (rs := [5]) (by kernel_rfl) (by simp) ?_
    refine AllReadyH.cons rfl (fun K hK => ?_) AllReadyH.nil
    rw [if_pos (by rfl)]
    go_simp
    obtain ⟨a5, ha5⟩ : ∃ z : Nat, z = v1.heap.size := ⟨_, rfl⟩
    have N5 := Is.new (w := v1) a5 ha5 #[.int .i64 (Crc.sum (L.take 124) : Int)] 3 1 [Crc.sum (L.take 124)] rfl rfl
    refine hK.out _ _ ⟨Ext.alloc hS.1 _, hS.2.1.alloc _, ⟨BoxOf.alloc hS.2.2.1.1 _, hS.2.2.1.2⟩, (hS.2.1.alloc (.cells #[.int .i64 (Crc.sum (L.take 124) : Int)] 3)).cell⟩ (fun hS' => ?_)
    rw [← ha5]
    clear hK K hS ha5
    have hS := hS'
    clear hS'
    try simp only [Act.put, List.getElem_toArray, List.getElem_cons_zero, List.getElem_cons_succ, List.setIfInBounds_toArray, List.set_cons_zero, List.set_cons_succ]
    generalize v1.alloc (.cells #[.int .i64 (Crc.sum (L.take 124) : Int)] 3) = v2 at *
    refine wpAnyH_ready (rs := [6]) (by kernel_rfl) (by simp) ?_
    refine AllReadyH.cons rfl (fun K hK => ?_) AllReadyH.nil
    rw [if_pos (by rfl)]
    go_simp
    refine (nput_int (some ⟨g, 0, none⟩) 128 128 _ (.inr rfl) 124 4 (some ⟨a5, 0, none⟩) 1 1 [Crc.sum (L.take 124)] 124 4 rfl rfl (by decide) (by decide) (by decide) (by simpa using HSM.out) _ hS.2.2.1.bs N5).mono ?_
    rintro e v3 ⟨g6, rfl, hg6, HB6, b6⟩
    have HB7 : Box v3 g6 (sealL L) := by
      have e7 : putAll L (rowsAt 124 4 [Crc.sum (L.take 124)]) = sealL L := by
        show putR L _ = _
        unfold putR sealL
        rw [wholeL_full hL]
      rw [← e7]; exact HB6
    refine hK.out _ _ ⟨Ext.trans hS.1 b6, hS.2.1.next b6, ⟨BoxOf.next hS.2.2.1.1 b6, hS.2.2.1.2⟩, (hS.2.1.next b6).cell⟩ (fun hS' => ?_)
    have hDg : D < g6 := Nat.lt_of_lt_of_le hDlt (Nat.le_trans hS.1.size hg6)
    clear hK K hS b6 hg6 HB6 N5
    have hS := hS'
    clear hS'
    try simp only [Act.put, List.getElem_toArray, List.getElem_cons_zero, List.getElem_cons_succ, List.setIfInBounds_toArray, List.set_cons_zero, List.set_cons_succ]
    refine wpAnyH_take (i := 7) (oi := _) (v := ?_) rfl (by kernel_rfl) (by kernel_rfl) (by kernel_rfl) (fun _ _ _ h => h) (Or.inl ⟨by rfl, ?_⟩) hS ?_
    rotate_left
    · (intro w hSw; (try dsimp only at hSw); go_simp; (try with_reducible rfl))
    rotate_left
    simp only [Act.put, List.getElem_toArray, List.getElem_cons_zero, List.getElem_cons_succ, List.setIfInBounds_toArray, List.set_cons_zero, List.set_cons_succ]
    refine wpAnyH_take (i := 8) (oi := _) (v := ?_) rfl (by kernel_rfl) (by kernel_rfl) (by kernel_rfl) (fun _ _ _ h => h) (Or.inl ⟨by rfl, ?_⟩) hS ?_
    rotate_left
    · (intro w hSw; (try dsimp only at hSw); go_simp; (try with_reducible rfl))
    rotate_left
    simp only [Act.put, List.getElem_toArray, List.getElem_cons_zero, List.getElem_cons_succ, List.setIfInBounds_toArray, List.set_cons_zero, List.set_cons_succ]
    refine wpAnyH_done (by kernel_rfl) ?_ _
    have hDW3 : v3.heap[D]? = some (.deferred (some [])) := by rw [hS.1.block D hDlt]; exact HDW.out
    have HD3 := Lib.hid hDW3
    have t9 := Ext.trans hbw hS.1
    clear hS hDW3
    refine OnlyN.intro ?_
    gi_wp2_with fail
    refine ⟨by simp, .inl ⟨_, _, rfl, run_takeDeferred HD3.out, ?_⟩⟩
    refine ⟨_, results_tmp2 rfl _ _ _, ⟨g6, rfl, ?_, ?_, ?_⟩⟩
    · have := t7.size
      omega
    · rw [← HLD.out]
      refine ⟨?_, HB7.2⟩
      have h1 := HB7.1
      unfold BoxOf at h1
      rw [World.putObj_heap_other (by omega)]; exact h1
    · refine t9.grown (grownBy_putObj' v3 D _) ?_ ?_
      · have := (Array.getElem?_eq_some_iff.1 HD3.out).1
        have := t7.size
        omega
      · intro k e
        have := t7.size
        cases e
        omega
end Go.Proofs.Ytggdfecgkhnkkaa
