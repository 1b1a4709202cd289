/- Layer 7 (turn): where a block stands. -/
import Derived.Test.YtdeffbhkmmppmaaTurn4
namespace Go.Proofs.Ytdeffbhkmmppmaa
open Go.RowKit
set_option linter.unusedSimpArgs false

set_option maxRecDepth 100000 in
theorem spot_bad (x : Cfg) (hx : ¬ x.Ok) (b : Int) (w : World) :
    Calls Try.prog 9 #[x.val, .int .i64 b] w fun e w' => e = .returned (.tuple #[.agg #[.int .i64 (0), .int .i64 (0), .int .i64 (0)], .int .i64 8]) ∧ Below w.heap.size w w' := by
  have HS := Lib.hid (blocks_bad x hx)
  obtain ⟨id, m, c, r, l, h⟩ := x
  unfold Cfg.val at *
  dsimp only at *
  go_enter Try.func9, Try.ntmps9
  go_wp2_with fail
  have B1 := BoxOf.new' (w.alloc (.cells #[.int .u32 (id : Int), .int .i64 m, .int .i64 c, .int .i64 r, .int .i64 l, .int .i64 h] 24)) (w.heap.size + 1) #[.int .i64 (0), .int .i64 (0), .int .i64 (0)] 27 (by simp)
  have b0 := Ext.alloc (Ext.alloc (Below.refl w.heap.size w) (.cells #[.int .u32 (id : Int), .int .i64 m, .int .i64 c, .int .i64 r, .int .i64 l, .int .i64 h] 24)) (.cells #[.int .i64 (0), .int .i64 (0), .int .i64 (0)] 27)
  refine (HS.out _).mono ?_
  rintro e w1 ⟨rfl, b1⟩
  have B2 := Lib.hid (B1.next b1)
  have bt := Ext.trans b0 b1
  clear b1 b0 B1
  go_wp2_with (refine wpList_store_rowTo rfl 27 (.tmp 4) (.tmp 20) rfl rfl (w.heap.size + 1) #[.int .i64 (0), .int .i64 (0), .int .i64 (0)] rfl rfl 27 #[.int .i64 (0), .int .i64 (0), .int .i64 (0)] B2.out (by kernel_rfl) rfl (by kernel_rfl) ?_)
  exact bodyPost_ret (v := .tuple #[.agg #[.int .i64 (0), .int .i64 (0), .int .i64 (0)], .int .i64 8]) (Eq.trans (results_row2 (P := Try.prog) (fn := Try.f9) (p := 4) (u := 5) (ty := 27) rfl _ _ (w.heap.size + 1) 27 #[.int .i64 (0), .int .i64 (0), .int .i64 (0)] (0, 0) _ rfl (B2.out.set _) Try.underlying27 rfl (by kernel_rfl)) rfl) rfl ⟨rfl, Ext.setRow bt (by omega) _⟩

set_option maxRecDepth 100000 in
theorem spot_arg (x : Cfg) (hx : x.Ok) (b : Int) (hb : b < 0 ∨ (0 ≤ b ∧ x.c * x.r * (x.m - 1) ≤ b)) (w : World) :
    Calls Try.prog 9 #[x.val, .int .i64 b] w fun e w' => e = .returned (.tuple #[.agg #[.int .i64 (0), .int .i64 (0), .int .i64 (0)], .int .i64 2]) ∧ Below w.heap.size w w' := by
  have HS := Lib.hid (blocks_ok x hx)
  obtain ⟨id, m, c, r, l, h⟩ := x
  unfold Cfg.val at *
  dsimp only at *
  generalize c * r * (m - 1) = n at *
  rcases hb with hb | ⟨hb0, hb⟩
  all_goals
    go_enter Try.func9, Try.ntmps9
    go_wp2_with fail
    have B1 := BoxOf.new' (w.alloc (.cells #[.int .u32 (id : Int), .int .i64 m, .int .i64 c, .int .i64 r, .int .i64 l, .int .i64 h] 24)) (w.heap.size + 1) #[.int .i64 (0), .int .i64 (0), .int .i64 (0)] 27 (by simp)
    have b0 := Ext.alloc (Ext.alloc (Below.refl w.heap.size w) (.cells #[.int .u32 (id : Int), .int .i64 m, .int .i64 c, .int .i64 r, .int .i64 l, .int .i64 h] 24)) (.cells #[.int .i64 (0), .int .i64 (0), .int .i64 (0)] 27)
    refine (HS.out _).mono ?_
    rintro e w1 ⟨rfl, b1⟩
    have B2 := Lib.hid (B1.next b1)
    have bt := Ext.trans b0 b1
    clear b1 b0 B1
    go_wp2_with (refine wpList_store_rowTo rfl 27 (.tmp 4) (.tmp 28) rfl rfl (w.heap.size + 1) #[.int .i64 (0), .int .i64 (0), .int .i64 (0)] rfl rfl 27 #[.int .i64 (0), .int .i64 (0), .int .i64 (0)] B2.out (by kernel_rfl) rfl (by kernel_rfl) ?_)
    exact bodyPost_ret (v := .tuple #[.agg #[.int .i64 (0), .int .i64 (0), .int .i64 (0)], .int .i64 2]) (Eq.trans (results_row2 (P := Try.prog) (fn := Try.f9) (p := 4) (u := 5) (ty := 27) rfl _ _ (w.heap.size + 1) 27 #[.int .i64 (0), .int .i64 (0), .int .i64 (0)] (0, 0) _ rfl (B2.out.set _) Try.underlying27 rfl (by kernel_rfl)) rfl) rfl ⟨rfl, Ext.setRow bt (by omega) _⟩

theorem div_small {a b n : Int} (ha : 0 ≤ a) (hn : a ≤ n) (hb : 0 ≤ b) : 0 ≤ a / b ∧ a / b ≤ n := ⟨Int.ediv_nonneg ha hb, by have := Int.ediv_le_self b ha; omega⟩

set_option maxRecDepth 100000 in
theorem spot_ok (x : Cfg) (hx : x.Ok) (b : Int) (h1 : 0 ≤ b ∧ b < x.c * x.r * (x.m - 1)) (w : World) :
    Calls Try.prog 9 #[x.val, .int .i64 b] w fun e w' => e = .returned (.tuple #[.agg #[.int .i64 (b / x.c / (x.m - 1) * x.c + b % x.c), .int .i64 (b / x.c % (x.m - 1)), .int .i64 ((x.m - 1 - b / x.c / (x.m - 1) % x.m + 1 + b / x.c % (x.m - 1)) % x.m)], .int .i64 0]) ∧ Below w.heap.size w w' := by
  have HS := Lib.hid (blocks_ok x hx)
  have hcr := Cfg.crm hx
  obtain ⟨⟨hm1, hm2, hc1, hc2, _⟩, _⟩ := hx
  have hmm : 3 ≤ x.m ∧ x.m ≤ 16 := ⟨hm1, hm2⟩
  have d1 := div_small (b := x.c) h1.1 (show b ≤ 960 by omega) (by omega)
  have d2 := div_small (b := x.m - 1) d1.1 d1.2 (by omega)
  have d3 : 0 ≤ b / x.c % (x.m - 1) ∧ b / x.c % (x.m - 1) < x.m - 1 := ⟨Int.emod_nonneg _ (by omega), Int.emod_lt_of_pos _ (by omega)⟩
  have d4 : 0 ≤ b % x.c ∧ b % x.c < x.c := ⟨Int.emod_nonneg _ (by omega), Int.emod_lt_of_pos _ (by omega)⟩
  have HD := Lib.hid (fun W => divide_any b x.c h1.1 (by omega) (by omega) (by omega) W)
  have HD2 := Lib.hid (fun W => divide_any (b / x.c) (x.m - 1) d1.1 (by omega) (by omega) (by omega) W)
  have HM := Lib.hid (fun W => member_row x (b / x.c / (x.m - 1)) (b / x.c % (x.m - 1)) hmm ⟨d2.1, by omega⟩ ⟨d3.1, by omega⟩ W)
  have d5 : 0 ≤ b / x.c / (x.m - 1) * x.c := Int.mul_nonneg d2.1 (by omega)
  have d6 : b / x.c / (x.m - 1) * x.c ≤ 960 * 8 := Int.mul_le_mul d2.2 hc2 (by omega) (by omega)
  obtain ⟨id, m, c, r, l, h⟩ := x
  unfold Cfg.val rowVal at *
  dsimp only at *
  obtain ⟨g1, g2⟩ := h1
  clear hmm hcr
  generalize c * r * (m - 1) = n at *
  generalize hq : b / c = q at *
  generalize hk : q / (m - 1) = k at *
  generalize hp : q % (m - 1) = p at *
  generalize hu : b % c = u at *
  have q1 : IntKind.i64.wrap (k * c) = k * c := i64_fit (by omega)
  have q2 : IntKind.i64.wrap (k * c + u) = k * c + u := i64_fit (by omega)
  have q3 : IntKind.i64.wrap (m - 1) = m - 1 := i64_fit (by omega)
  have Q1 := Lib.hid q1
  have Q2 := Lib.hid q2
  obtain ⟨d11, d12⟩ := d1
  obtain ⟨d21, d22⟩ := d2
  obtain ⟨d31, d32⟩ := d3
  obtain ⟨d41, d42⟩ := d4
  have HQ := Lib.hid hq
  have HK := Lib.hid hk
  have HP := Lib.hid hp
  have HU := Lib.hid hu
  clear hq hk hp hu q1 q2 q3
  go_enter Try.func9, Try.ntmps9
  go_wp2_with fail
  have A1 := BoxOf.alloc (BoxOf.new w #[.int .u32 (id : Int), .int .i64 m, .int .i64 c, .int .i64 r, .int .i64 l, .int .i64 h] 24) (.cells #[.int .i64 (0), .int .i64 (0), .int .i64 (0)] 27)
  have B1 := BoxOf.new' (w.alloc (.cells #[.int .u32 (id : Int), .int .i64 m, .int .i64 c, .int .i64 r, .int .i64 l, .int .i64 h] 24)) (w.heap.size + 1) #[.int .i64 (0), .int .i64 (0), .int .i64 (0)] 27 (by simp)
  have b0 := Ext.alloc (Ext.alloc (Below.refl w.heap.size w) (.cells #[.int .u32 (id : Int), .int .i64 m, .int .i64 c, .int .i64 r, .int .i64 l, .int .i64 h] 24)) (.cells #[.int .i64 (0), .int .i64 (0), .int .i64 (0)] 27)
  refine (HS.out _).mono ?_
  rintro e w1 ⟨rfl, b1⟩
  have A2 := A1.next b1
  have B2 := B1.next b1
  have bt := Ext.trans b0 b1
  have x2 := A2.cell
  clear b1 b0 B1 A1
  go_wp2_with fail
  refine (HD.out _).mono ?_
  rintro e w2 ⟨rfl, b2⟩
  have A3 := A2.next b2
  have B3 := B2.next b2
  have bt3 := Ext.trans bt b2
  have x3 := A3.cell
  clear x2 A2 B2 b2 bt
  go_wp2_with fail
  refine (HD2.out _).mono ?_
  rintro e w3 ⟨rfl, b3⟩
  have A4 := A3.next b3
  have B4 := B3.next b3
  have bt4 := Ext.trans bt3 b3
  have x4 := A4.cell
  clear x3 A3 B3 b3 bt3
  go_wp2_with fail
  clear x4
  have q1 := Q1.out
  have q2 := Q2.out
  refine wp_region_held_drew (S := fun w' => Below w.heap.size w w' ∧ (∃ zs : Array Value, zs.size = 3 ∧ BoxOf w' (w.heap.size + 1) zs 27) ∧ BoxOf w' w.heap.size #[.int .u32 (id : Int), .int .i64 m, .int .i64 c, .int .i64 r, .int .i64 l, .int .i64 h] 24 ∧ ∀ o, w'.cell? ⟨w.heap.size, o, none⟩ = #[.int .u32 (id : Int), .int .i64 m, .int .i64 c, .int .i64 r, .int .i64 l, .int .i64 h].toList[o]?) (by kernel_rfl) ⟨Ext.drew bt4, ⟨_, rfl, B4.drew⟩, A4.drew, A4.drew.cell⟩ (fun hS => ?_)
  refine wpAnyH_take (i := 0) (oi := _) (v := ?_) rfl (by kernel_rfl) (by kernel_rfl) (by kernel_rfl) (fun _ _ _ h => h) (Or.inl ⟨by rfl, ?_⟩) hS ?_
  rotate_left
  · (intro w hSw; (try dsimp only at hSw); go_simp; (try with_reducible rfl))
  rotate_left
  simp only [Act.put, List.getElem_toArray, List.getElem_cons_zero, List.getElem_cons_succ, List.setIfInBounds_toArray, List.set_cons_zero, List.set_cons_succ]
  refine wpAnyH_take (i := 1) (oi := _) (v := ?_) rfl (by kernel_rfl) (by kernel_rfl) (by kernel_rfl) (fun _ _ _ h => h) (Or.inl ⟨by rfl, ?_⟩) hS ?_
  rotate_left
  · (intro w hSw; (try dsimp only at hSw); go_simp; (try with_reducible rfl))
  rotate_left
  simp only [Act.put, List.getElem_toArray, List.getElem_cons_zero, List.getElem_cons_succ, List.setIfInBounds_toArray, List.set_cons_zero, List.set_cons_succ]
  refine wpAnyH_take (i := 2) (oi := _) (v := ?_) rfl (by kernel_rfl) (by kernel_rfl) (by kernel_rfl) (fun _ _ _ h => h) (Or.inl ⟨by rfl, ?_⟩) hS ?_
  rotate_left
  · (intro w hSw; (try dsimp only at hSw); go_simp; (try with_reducible rfl))
  rotate_left
  simp only [Act.put, List.getElem_toArray, List.getElem_cons_zero, List.getElem_cons_succ, List.setIfInBounds_toArray, List.set_cons_zero, List.set_cons_succ]
  refine wpAnyH_take (i := 3) (oi := _) (v := ?_) rfl (by kernel_rfl) (by kernel_rfl) (by kernel_rfl) (fun _ _ _ h => h) (Or.inl ⟨by rfl, ?_⟩) hS ?_
  rotate_left
  · (intro w hSw; (try dsimp only at hSw); go_simp; (try with_reducible rfl))
  rotate_left
  simp only [Act.put, List.getElem_toArray, List.getElem_cons_zero, List.getElem_cons_succ, List.setIfInBounds_toArray, List.set_cons_zero, List.set_cons_succ]
  refine wpAnyH_take (i := 4) (oi := _) (v := ?_) rfl (by kernel_rfl) (by kernel_rfl) (by kernel_rfl) (fun _ _ _ h => h) (Or.inl ⟨by rfl, ?_⟩) hS ?_
  rotate_left
  · (intro w hSw; (try dsimp only at hSw); go_simp; (try with_reducible rfl))
  rotate_left
  simp only [Act.put, List.getElem_toArray, List.getElem_cons_zero, List.getElem_cons_succ, List.setIfInBounds_toArray, List.set_cons_zero, List.set_cons_succ]
  refine wpAnyH_take (i := 5) (oi := _) (v := ?_) rfl (by kernel_rfl) (by kernel_rfl) (by kernel_rfl) (fun _ _ _ h => h) (Or.inl ⟨by rfl, ?_⟩) hS ?_
  rotate_left
  · (intro w hSw; (try dsimp only at hSw); go_simp; (try with_reducible rfl))
  rotate_left
  simp only [Act.put, List.getElem_toArray, List.getElem_cons_zero, List.getElem_cons_succ, List.setIfInBounds_toArray, List.set_cons_zero, List.set_cons_succ]
  refine wpAnyH_take (i := 6) (oi := _) (v := ?_) rfl (by kernel_rfl) (by kernel_rfl) (by kernel_rfl) (fun _ _ _ h => h) (Or.inl ⟨by rfl, ?_⟩) hS ?_
  rotate_left
  · (intro w hSw; (try dsimp only at hSw); go_simp; (try with_reducible rfl))
  rotate_left
  simp only [Act.put, List.getElem_toArray, List.getElem_cons_zero, List.getElem_cons_succ, List.setIfInBounds_toArray, List.set_cons_zero, List.set_cons_succ]
  refine wpAnyH_take (i := 7) (oi := _) (v := ?_) rfl (by kernel_rfl) (by kernel_rfl) (by kernel_rfl) (fun _ _ _ h => h) (Or.inl ⟨by rfl, ?_⟩) hS ?_
  rotate_left
  · (intro w hSw; (try dsimp only at hSw); go_simp; (try with_reducible rfl))
  rotate_left
  simp only [Act.put, List.getElem_toArray, List.getElem_cons_zero, List.getElem_cons_succ, List.setIfInBounds_toArray, List.set_cons_zero, List.set_cons_succ]
  refine wpAnyH_take (i := 8) (oi := _) (v := ?_) rfl (by kernel_rfl) (by kernel_rfl) (by kernel_rfl) (fun _ _ _ h => h) (Or.inl ⟨by rfl, ?_⟩) hS ?_
  rotate_left
  · (intro w hSw; (try dsimp only at hSw); go_simp; (try with_reducible rfl))
  rotate_left
  simp only [Act.put, List.getElem_toArray, List.getElem_cons_zero, List.getElem_cons_succ, List.setIfInBounds_toArray, List.set_cons_zero, List.set_cons_succ]
  refine wpAnyH_take (i := 9) (oi := _) (v := ?_) rfl (by kernel_rfl) (by kernel_rfl) (by kernel_rfl) (fun _ _ _ h => h) (Or.inl ⟨by rfl, ?_⟩) hS ?_
  rotate_left
  · (intro w hSw; (try dsimp only at hSw); go_simp; (try with_reducible rfl))
  rotate_left
  simp only [Act.put, List.getElem_toArray, List.getElem_cons_zero, List.getElem_cons_succ, List.setIfInBounds_toArray, List.set_cons_zero, List.set_cons_succ]
  refine wpAnyH_take (i := 10) (oi := _) (v := ?_) rfl (by kernel_rfl) (by kernel_rfl) (by kernel_rfl) (fun _ _ _ h => h) (Or.inl ⟨by rfl, ?_⟩) hS ?_
  rotate_left
  · (intro w hSw; (try dsimp only at hSw); go_simp; (try with_reducible rfl))
  rotate_left
  simp only [Act.put, List.getElem_toArray, List.getElem_cons_zero, List.getElem_cons_succ, List.setIfInBounds_toArray, List.set_cons_zero, List.set_cons_succ]
  clear q1 q2
  refine wpAnyH_ready (rs := [11]) (by kernel_rfl) (by simp) ?_
  refine AllReadyH.cons rfl (fun K hK => ?_) AllReadyH.nil
  rw [if_pos (by rfl)]
  go_simp
  refine (HM.out _).mono ?_
  rintro e w4 ⟨rfl, b4⟩
  obtain ⟨zs, hz, B5⟩ := hS.2.1
  refine hK.out _ _ ⟨Ext.trans hS.1 b4, ⟨zs, hz, B5.next b4⟩, hS.2.2.1.next b4, (hS.2.2.1.next b4).cell⟩ (fun hS' => ?_)
  have B6 := B5.next b4
  clear hK K hS b4 B5
  have hS := hS'
  clear hS'
  have bt6 := hS.1
  refine wpAnyH_take (i := 12) (oi := _) (v := ?_) rfl (by kernel_rfl) (by kernel_rfl) (by kernel_rfl) (fun _ _ _ h => h) (Or.inl ⟨by rfl, ?_⟩) hS ?_
  rotate_left
  · (intro w hSw; (try dsimp only at hSw); go_simp; (try with_reducible rfl))
  rotate_left
  simp only [Act.put, List.getElem_toArray, List.getElem_cons_zero, List.getElem_cons_succ, List.setIfInBounds_toArray, List.set_cons_zero, List.set_cons_succ]
  refine wpAnyH_ready (rs := [13]) (by kernel_rfl) (by simp) ?_
  refine AllReadyH.cons rfl (fun K hK => ?_) AllReadyH.nil
  rw [if_pos (by rfl)]
  refine wp_store_row 27 (.tmp 4) (.tmp 56) rfl (w.heap.size + 1) #[.int .i64 (k * c + u), .int .i64 (p), .int .i64 ((m - 1 - k % m + 1 + p) % m)] rfl rfl 27 zs B6 (by kernel_rfl) hz (by kernel_rfl) ?_
  refine hK.out _ _ ⟨Ext.setRow bt6 (by omega) _, ⟨_, rfl, B6.set _⟩, hS.2.2.1.other (by omega) _, (hS.2.2.1.other (by omega) _).cell⟩ (fun hS' => ?_)
  clear hK K hS
  have hS := hS'
  clear hS'
  simp only [Act.put, List.getElem_toArray, List.getElem_cons_zero, List.getElem_cons_succ, List.setIfInBounds_toArray, List.set_cons_zero, List.set_cons_succ]
  refine wpAnyH_take (i := 14) (oi := _) (v := ?_) rfl (by kernel_rfl) (by kernel_rfl) (by kernel_rfl) (fun _ _ _ h => h) (Or.inl ⟨by rfl, ?_⟩) hS ?_
  rotate_left
  · (intro w hSw; (try dsimp only at hSw); go_simp; (try with_reducible rfl))
  rotate_left
  simp only [Act.put, List.getElem_toArray, List.getElem_cons_zero, List.getElem_cons_succ, List.setIfInBounds_toArray, List.set_cons_zero, List.set_cons_succ]
  refine wpAnyH_done (by kernel_rfl) ?_ _
  clear hS
  go_wp2
  exact bodyPost_ret (v := .tuple #[.agg #[.int .i64 (k * c + u), .int .i64 (p), .int .i64 ((m - 1 - k % m + 1 + p) % m)], .int .i64 0]) (Eq.trans (results_row2 (P := Try.prog) (fn := Try.f9) (p := 4) (u := 5) (ty := 27) rfl _ _ (w.heap.size + 1) 27 #[.int .i64 (k * c + u), .int .i64 (p), .int .i64 ((m - 1 - k % m + 1 + p) % m)] (0, 0) _ rfl (B6.set _) Try.underlying27 rfl (by kernel_rfl)) rfl) rfl ⟨rfl, Ext.setRow bt6 (by omega) _⟩
end Go.Proofs.Ytdeffbhkmmppmaa
