/- The statements ShapeApart and ShapeMore of layer 6 (shape): their walks. -/
import Derived.Test.YtfelnhmefnhpeaaShapeLaws
namespace Go.Proofs.Ytfelnhmefnhpeaa
open Go.RowKit

def Cfg.eqB (x y : Cfg) : Bool := decide (x.id = y.id ∧ x.m = y.m ∧ x.c = y.c ∧ x.r = y.r ∧ x.l = y.l ∧ x.h = y.h)
theorem eq_cfg (w : World) (x y : Cfg) : (Op.equalIn 10000 24 x.val y.val).run Try.prog w = .ok (x.eqB y) w := by
  have e : Hid (x.eqB y = decide (x.id = y.id ∧ x.m = y.m ∧ x.c = y.c ∧ x.r = y.r ∧ x.l = y.l ∧ x.h = y.h)) := rfl
  unfold Cfg.val
  go_simp
  rw [e.out]
  have hi : ((x.id : Int) = (y.id : Int)) ↔ x.id = y.id := by omega
  simp only [hi]
  clear e hi
  repeat' split
  all_goals simp [*]

theorem box2_a (w : World) (cs ds : Array Value) (t u : TypeId) : ∀ o, ((w.alloc (.cells cs t)).alloc (.cells ds u)).cell? ⟨w.heap.size, o, none⟩ = cs.toList[o]? := fun o => by
  rw [World.cell?_alloc_lt _ _ _ (by simp)]
  exact box_new w cs t o
theorem box2_b (w : World) (cs ds : Array Value) (t u : TypeId) : ∀ o, ((w.alloc (.cells cs t)).alloc (.cells ds u)).cell? ⟨w.heap.size + 1, o, none⟩ = ds.toList[o]? := fun o => by
  have h := box_new (w.alloc (.cells cs t)) ds u o
  rw [World.size_alloc] at h
  exact h
theorem free2_a (w : World) (cs ds : Array Value) (t u : TypeId) (o : Nat) : ((w.alloc (.cells cs t)).alloc (.cells ds u)).frozen? ⟨w.heap.size, o, none⟩ = false := by
  rw [World.frozen?_alloc_old _ _ _ (by simp)]
  exact free_new w cs t o

/-- which numbers two configs that may be have alike -/
theorem apart_plain (x y : Cfg) (hx : x.Ok) (h1 : x.c * x.r = y.c * y.r) (h2 : x.c * x.r * (x.m - 1) = y.c * y.r * (y.m - 1)) (h3 : x.l + 1 = y.l + 1) (h4 : x.h = y.h) (h5 : x.c = y.c) : x.m = y.m ∧ x.c = y.c ∧ x.r = y.r ∧ x.l = y.l ∧ x.h = y.h := by
  obtain ⟨a1, a2, a3, a4, a5, a6, a7, a8, a9, a10⟩ := Cfg.bounds hx
  obtain ⟨k1, k2⟩ := Cfg.cr hx
  have hr : x.r = y.r := by
    rw [h5] at h1
    exact Int.eq_of_mul_eq_mul_left (by omega) h1
  have hm : x.m - 1 = y.m - 1 := by
    rw [← h1] at h2
    exact Int.eq_of_mul_eq_mul_left (by omega) h2
  exact ⟨by omega, h5, hr, by omega, h4⟩


set_option maxRecDepth 100000 in
theorem shapeApart_bad1 (x y : Cfg) (hx : ¬ x.Ok) (w : World) : Calls Try.prog 6 #[x.val, y.val] w fun e w' => e = .returned (.bool true) ∧ Below w.heap.size w w' := by
  have kx := check_any x
  rw [Cfg.code_bad hx] at kx
  have kx' := Lib.hid kx
  clear kx
  obtain ⟨id, m, c, r, l, h⟩ := x
  obtain ⟨id', m', c', r', l', h'⟩ := y
  clear hx
  unfold Cfg.val at *
  dsimp only at *
  go_enter Try.func6, Try.ntmps6
  have x0 := box2_a w #[.int .u32 (id : Int), .int .i64 m, .int .i64 c, .int .i64 r, .int .i64 l, .int .i64 h] #[.int .u32 (id' : Int), .int .i64 m', .int .i64 c', .int .i64 r', .int .i64 l', .int .i64 h'] 24 24
  have y0 := box2_b w #[.int .u32 (id : Int), .int .i64 m, .int .i64 c, .int .i64 r, .int .i64 l, .int .i64 h] #[.int .u32 (id' : Int), .int .i64 m', .int .i64 c', .int .i64 r', .int .i64 l', .int .i64 h'] 24 24
  have l0 : w.heap.size < ((w.alloc (.cells #[.int .u32 (id : Int), .int .i64 m, .int .i64 c, .int .i64 r, .int .i64 l, .int .i64 h] 24)).alloc (.cells #[.int .u32 (id' : Int), .int .i64 m', .int .i64 c', .int .i64 r', .int .i64 l', .int .i64 h'] 24)).heap.size := by simp; omega
  have m0 : w.heap.size + 1 < ((w.alloc (.cells #[.int .u32 (id : Int), .int .i64 m, .int .i64 c, .int .i64 r, .int .i64 l, .int .i64 h] 24)).alloc (.cells #[.int .u32 (id' : Int), .int .i64 m', .int .i64 c', .int .i64 r', .int .i64 l', .int .i64 h'] 24)).heap.size := by simp
  go_wp2_with fail
  refine (salive_any _).mono ?_
  rintro e w1 ⟨rfl, b1⟩
  have x1 := box_next x0 l0 b1
  have y1 := box_next y0 m0 b1
  have l1 := lt_next l0 b1
  have m1 := lt_next m0 b1
  clear x0 y0
  go_wp2_with fail
  refine (kx'.out _).mono ?_
  rintro e w2 ⟨rfl, b2⟩
  have x2 := box_next x1 l1 b2
  have y2 := box_next y1 m1 b2
  have l2 := lt_next l1 b2
  have m2 := lt_next m1 b2
  clear x1 y1
  go_wp2
  go_ret
  exact ⟨rfl, (Ext.trans (Ext.trans (Ext.alloc (Ext.alloc (Below.refl _ _) _) _) b1) b2)⟩

set_option maxRecDepth 100000 in
theorem shapeApart_bad2 (x y : Cfg) (hx : x.Ok) (hy : ¬ y.Ok) (w : World) : Calls Try.prog 6 #[x.val, y.val] w fun e w' => e = .returned (.bool true) ∧ Below w.heap.size w w' := by
  have kx := check_any x
  rw [Cfg.code_ok hx] at kx
  have kx' := Lib.hid kx
  clear kx
  have ky := check_any y
  rw [Cfg.code_bad hy] at ky
  have ky' := Lib.hid ky
  clear ky
  obtain ⟨id, m, c, r, l, h⟩ := x
  obtain ⟨id', m', c', r', l', h'⟩ := y
  clear hx hy
  unfold Cfg.val at *
  dsimp only at *
  go_enter Try.func6, Try.ntmps6
  have x0 := box2_a w #[.int .u32 (id : Int), .int .i64 m, .int .i64 c, .int .i64 r, .int .i64 l, .int .i64 h] #[.int .u32 (id' : Int), .int .i64 m', .int .i64 c', .int .i64 r', .int .i64 l', .int .i64 h'] 24 24
  have y0 := box2_b w #[.int .u32 (id : Int), .int .i64 m, .int .i64 c, .int .i64 r, .int .i64 l, .int .i64 h] #[.int .u32 (id' : Int), .int .i64 m', .int .i64 c', .int .i64 r', .int .i64 l', .int .i64 h'] 24 24
  have l0 : w.heap.size < ((w.alloc (.cells #[.int .u32 (id : Int), .int .i64 m, .int .i64 c, .int .i64 r, .int .i64 l, .int .i64 h] 24)).alloc (.cells #[.int .u32 (id' : Int), .int .i64 m', .int .i64 c', .int .i64 r', .int .i64 l', .int .i64 h'] 24)).heap.size := by simp; omega
  have m0 : w.heap.size + 1 < ((w.alloc (.cells #[.int .u32 (id : Int), .int .i64 m, .int .i64 c, .int .i64 r, .int .i64 l, .int .i64 h] 24)).alloc (.cells #[.int .u32 (id' : Int), .int .i64 m', .int .i64 c', .int .i64 r', .int .i64 l', .int .i64 h'] 24)).heap.size := by simp
  go_wp2_with fail
  refine (salive_any _).mono ?_
  rintro e w1 ⟨rfl, b1⟩
  have x1 := box_next x0 l0 b1
  have y1 := box_next y0 m0 b1
  have l1 := lt_next l0 b1
  have m1 := lt_next m0 b1
  clear x0 y0
  go_wp2_with fail
  refine (kx'.out _).mono ?_
  rintro e w2 ⟨rfl, b2⟩
  have x2 := box_next x1 l1 b2
  have y2 := box_next y1 m1 b2
  have l2 := lt_next l1 b2
  have m2 := lt_next m1 b2
  clear x1 y1
  go_wp2_with fail
  refine (ky'.out _).mono ?_
  rintro e w3 ⟨rfl, b3⟩
  have x3 := box_next x2 l2 b3
  have y3 := box_next y2 m2 b3
  have l3 := lt_next l2 b3
  have m3 := lt_next m2 b3
  clear x2 y2
  go_wp2
  go_ret
  exact ⟨rfl, (Ext.trans (Ext.trans (Ext.trans (Ext.alloc (Ext.alloc (Below.refl _ _) _) _) b1) b2) b3)⟩

set_option maxRecDepth 100000 in
theorem shapeApart_same (x y : Cfg) (hx : x.Ok) (hy : y.Ok) (he : x.m = y.m ∧ x.c = y.c ∧ x.r = y.r ∧ x.l = y.l ∧ x.h = y.h) (w : World) : Calls Try.prog 6 #[x.val, y.val] w fun e w' => e = .returned (.bool true) ∧ Below w.heap.size w w' := by
  have s1 := Lib.hid (stripes_ok x hx)
  have s2 := Lib.hid (stripes_ok y hy)
  have s3 := Lib.hid (blocks_ok x hx)
  have s4 := Lib.hid (blocks_ok y hy)
  have s5 := Lib.hid (journal_ok x hx)
  have s6 := Lib.hid (journal_ok y hy)
  have kx := check_any x
  rw [Cfg.code_ok hx] at kx
  have kx' := Lib.hid kx
  clear kx
  have ky := check_any y
  rw [Cfg.code_ok hy] at ky
  have ky' := Lib.hid ky
  clear ky
  have hq := fun W => eq_cfg W ⟨y.id, x.m, x.c, x.r, x.l, x.h⟩ y
  have hB : Cfg.eqB ⟨y.id, x.m, x.c, x.r, x.l, x.h⟩ y = true := decide_eq_true ⟨rfl, he⟩
  rw [hB] at hq
  clear hB
  obtain ⟨id, m, c, r, l, h⟩ := x
  obtain ⟨id', m', c', r', l', h'⟩ := y
  dsimp only at he
  obtain ⟨rfl, rfl, rfl, rfl, rfl⟩ := he
  clear hx hy
  unfold Cfg.val at *
  dsimp only at *
  go_enter Try.func6, Try.ntmps6
  have x0 := box2_a w #[.int .u32 (id : Int), .int .i64 m, .int .i64 c, .int .i64 r, .int .i64 l, .int .i64 h] #[.int .u32 (id' : Int), .int .i64 m, .int .i64 c, .int .i64 r, .int .i64 l, .int .i64 h] 24 24
  have y0 := box2_b w #[.int .u32 (id : Int), .int .i64 m, .int .i64 c, .int .i64 r, .int .i64 l, .int .i64 h] #[.int .u32 (id' : Int), .int .i64 m, .int .i64 c, .int .i64 r, .int .i64 l, .int .i64 h] 24 24
  have l0 : w.heap.size < ((w.alloc (.cells #[.int .u32 (id : Int), .int .i64 m, .int .i64 c, .int .i64 r, .int .i64 l, .int .i64 h] 24)).alloc (.cells #[.int .u32 (id' : Int), .int .i64 m, .int .i64 c, .int .i64 r, .int .i64 l, .int .i64 h] 24)).heap.size := by simp; omega
  have m0 : w.heap.size + 1 < ((w.alloc (.cells #[.int .u32 (id : Int), .int .i64 m, .int .i64 c, .int .i64 r, .int .i64 l, .int .i64 h] 24)).alloc (.cells #[.int .u32 (id' : Int), .int .i64 m, .int .i64 c, .int .i64 r, .int .i64 l, .int .i64 h] 24)).heap.size := by simp
  go_wp2_with fail
  refine (salive_any _).mono ?_
  rintro e w1 ⟨rfl, b1⟩
  have x1 := box_next x0 l0 b1
  have y1 := box_next y0 m0 b1
  have l1 := lt_next l0 b1
  have m1 := lt_next m0 b1
  clear x0 y0
  go_wp2_with fail
  refine (kx'.out _).mono ?_
  rintro e w2 ⟨rfl, b2⟩
  have x2 := box_next x1 l1 b2
  have y2 := box_next y1 m1 b2
  have l2 := lt_next l1 b2
  have m2 := lt_next m1 b2
  clear x1 y1
  go_wp2_with fail
  refine (ky'.out _).mono ?_
  rintro e w3 ⟨rfl, b3⟩
  have x3 := box_next x2 l2 b3
  have y3 := box_next y2 m2 b3
  have l3 := lt_next l2 b3
  have m3 := lt_next m2 b3
  clear x2 y2
  go_wp2_with fail
  refine (s1.out _).mono ?_
  rintro e w4 ⟨rfl, b4⟩
  have x4 := box_next x3 l3 b4
  have y4 := box_next y3 m3 b4
  have l4 := lt_next l3 b4
  have m4 := lt_next m3 b4
  clear x3 y3
  go_wp2_with fail
  refine (s2.out _).mono ?_
  rintro e w5 ⟨rfl, b5⟩
  have x5 := box_next x4 l4 b5
  have y5 := box_next y4 m4 b5
  have l5 := lt_next l4 b5
  have m5 := lt_next m4 b5
  clear x4 y4
  go_wp2_with fail
  refine (s3.out _).mono ?_
  rintro e w6 ⟨rfl, b6⟩
  have x6 := box_next x5 l5 b6
  have y6 := box_next y5 m5 b6
  have l6 := lt_next l5 b6
  have m6 := lt_next m5 b6
  clear x5 y5
  go_wp2_with fail
  refine (s4.out _).mono ?_
  rintro e w7 ⟨rfl, b7⟩
  have x7 := box_next x6 l6 b7
  have y7 := box_next y6 m6 b7
  have l7 := lt_next l6 b7
  have m7 := lt_next m6 b7
  clear x6 y6
  go_wp2_with fail
  refine (s5.out _).mono ?_
  rintro e w8 ⟨rfl, b8⟩
  have x8 := box_next x7 l7 b8
  have y8 := box_next y7 m7 b8
  have l8 := lt_next l7 b8
  have m8 := lt_next m7 b8
  clear x7 y7
  go_wp2_with fail
  refine (s6.out _).mono ?_
  rintro e w9 ⟨rfl, b9⟩
  have x9 := box_next x8 l8 b9
  have y9 := box_next y8 m8 b9
  have l9 := lt_next l8 b9
  have m9 := lt_next m8 b9
  clear x8 y8
  have fr : w9.frozen? ⟨w.heap.size, 0, none⟩ = false := (Below.frozen (p := ⟨w.heap.size, 0, none⟩) (Ext.trans (Ext.trans (Ext.trans (Ext.trans (Ext.trans (Ext.trans (Ext.trans (Ext.trans (Ext.trans (Below.refl _ _) b1) b2) b3) b4) b5) b6) b7) b8) b9) l0).trans (free2_a w _ _ _ _ 0)
  go_wp2
  go_ret
  exact ⟨rfl, Below.setCell (Ext.trans (Ext.trans (Ext.trans (Ext.trans (Ext.trans (Ext.trans (Ext.trans (Ext.trans (Ext.trans (Ext.alloc (Ext.alloc (Below.refl _ _) _) _) b1) b2) b3) b4) b5) b6) b7) b8) b9) (Nat.le_refl _) _⟩

set_option maxRecDepth 100000 in
theorem shapeApart_other (x y : Cfg) (hx : x.Ok) (hy : y.Ok) (he : ¬ (x.m = y.m ∧ x.c = y.c ∧ x.r = y.r ∧ x.l = y.l ∧ x.h = y.h)) (hT : (x.c * x.r == y.c * y.r) = false ∨ ((x.c * x.r == y.c * y.r) = true ∧ ((x.c * x.r * (x.m - 1) == y.c * y.r * (y.m - 1)) = false ∨ ((x.c * x.r * (x.m - 1) == y.c * y.r * (y.m - 1)) = true ∧ ((x.l + 1 == y.l + 1) = false ∨ ((x.l + 1 == y.l + 1) = true ∧ ((x.h == y.h) = false ∨ ((x.h == y.h) = true ∧ (x.c == y.c) = false)))))))) (w : World) : Calls Try.prog 6 #[x.val, y.val] w fun e w' => e = .returned (.bool true) ∧ Below w.heap.size w w' := by
  have s1 := Lib.hid (stripes_ok x hx)
  have s2 := Lib.hid (stripes_ok y hy)
  have s3 := Lib.hid (blocks_ok x hx)
  have s4 := Lib.hid (blocks_ok y hy)
  have s5 := Lib.hid (journal_ok x hx)
  have s6 := Lib.hid (journal_ok y hy)
  have kx := check_any x
  rw [Cfg.code_ok hx] at kx
  have kx' := Lib.hid kx
  clear kx
  have ky := check_any y
  rw [Cfg.code_ok hy] at ky
  have ky' := Lib.hid ky
  clear ky
  have hq := fun W => eq_cfg W ⟨y.id, x.m, x.c, x.r, x.l, x.h⟩ y
  have hB : Cfg.eqB ⟨y.id, x.m, x.c, x.r, x.l, x.h⟩ y = false := decide_eq_false fun h => he h.2
  rw [hB] at hq
  clear hB he
  obtain ⟨id, m, c, r, l, h⟩ := x
  obtain ⟨id', m', c', r', l', h'⟩ := y
  clear hx hy
  have HT := Lib.hid hT
  have HQ := Lib.hid hq
  clear hT hq
  unfold Cfg.val at *
  dsimp only at *
  go_enter Try.func6, Try.ntmps6
  have x0 := box2_a w #[.int .u32 (id : Int), .int .i64 m, .int .i64 c, .int .i64 r, .int .i64 l, .int .i64 h] #[.int .u32 (id' : Int), .int .i64 m', .int .i64 c', .int .i64 r', .int .i64 l', .int .i64 h'] 24 24
  have y0 := box2_b w #[.int .u32 (id : Int), .int .i64 m, .int .i64 c, .int .i64 r, .int .i64 l, .int .i64 h] #[.int .u32 (id' : Int), .int .i64 m', .int .i64 c', .int .i64 r', .int .i64 l', .int .i64 h'] 24 24
  have l0 : w.heap.size < ((w.alloc (.cells #[.int .u32 (id : Int), .int .i64 m, .int .i64 c, .int .i64 r, .int .i64 l, .int .i64 h] 24)).alloc (.cells #[.int .u32 (id' : Int), .int .i64 m', .int .i64 c', .int .i64 r', .int .i64 l', .int .i64 h'] 24)).heap.size := by simp; omega
  have m0 : w.heap.size + 1 < ((w.alloc (.cells #[.int .u32 (id : Int), .int .i64 m, .int .i64 c, .int .i64 r, .int .i64 l, .int .i64 h] 24)).alloc (.cells #[.int .u32 (id' : Int), .int .i64 m', .int .i64 c', .int .i64 r', .int .i64 l', .int .i64 h'] 24)).heap.size := by simp
  go_wp2_with fail
  refine (salive_any _).mono ?_
  rintro e w1 ⟨rfl, b1⟩
  have x1 := box_next x0 l0 b1
  have y1 := box_next y0 m0 b1
  have l1 := lt_next l0 b1
  have m1 := lt_next m0 b1
  clear x0 y0
  go_wp2_with fail
  refine (kx'.out _).mono ?_
  rintro e w2 ⟨rfl, b2⟩
  have x2 := box_next x1 l1 b2
  have y2 := box_next y1 m1 b2
  have l2 := lt_next l1 b2
  have m2 := lt_next m1 b2
  clear x1 y1
  go_wp2_with fail
  refine (ky'.out _).mono ?_
  rintro e w3 ⟨rfl, b3⟩
  have x3 := box_next x2 l2 b3
  have y3 := box_next y2 m2 b3
  have l3 := lt_next l2 b3
  have m3 := lt_next m2 b3
  clear x2 y2
  go_wp2_with fail
  refine (s1.out _).mono ?_
  rintro e w4 ⟨rfl, b4⟩
  have x4 := box_next x3 l3 b4
  have y4 := box_next y3 m3 b4
  have l4 := lt_next l3 b4
  have m4 := lt_next m3 b4
  clear x3 y3
  go_wp2_with fail
  refine (s2.out _).mono ?_
  rintro e w5 ⟨rfl, b5⟩
  have x5 := box_next x4 l4 b5
  have y5 := box_next y4 m4 b5
  have l5 := lt_next l4 b5
  have m5 := lt_next m4 b5
  clear x4 y4
  go_wp2_with fail
  refine (s3.out _).mono ?_
  rintro e w6 ⟨rfl, b6⟩
  have x6 := box_next x5 l5 b6
  have y6 := box_next y5 m5 b6
  have l6 := lt_next l5 b6
  have m6 := lt_next m5 b6
  clear x5 y5
  go_wp2_with fail
  refine (s4.out _).mono ?_
  rintro e w7 ⟨rfl, b7⟩
  have x7 := box_next x6 l6 b7
  have y7 := box_next y6 m6 b7
  have l7 := lt_next l6 b7
  have m7 := lt_next m6 b7
  clear x6 y6
  go_wp2_with fail
  refine (s5.out _).mono ?_
  rintro e w8 ⟨rfl, b8⟩
  have x8 := box_next x7 l7 b8
  have y8 := box_next y7 m7 b8
  have l8 := lt_next l7 b8
  have m8 := lt_next m7 b8
  clear x7 y7
  go_wp2_with fail
  refine (s6.out _).mono ?_
  rintro e w9 ⟨rfl, b9⟩
  have x9 := box_next x8 l8 b9
  have y9 := box_next y8 m8 b9
  have l9 := lt_next l8 b9
  have m9 := lt_next m8 b9
  clear x8 y8
  have fr : w9.frozen? ⟨w.heap.size, 0, none⟩ = false := (Below.frozen (p := ⟨w.heap.size, 0, none⟩) (Ext.trans (Ext.trans (Ext.trans (Ext.trans (Ext.trans (Ext.trans (Ext.trans (Ext.trans (Ext.trans (Below.refl _ _) b1) b2) b3) b4) b5) b6) b7) b8) b9) l0).trans (free2_a w _ _ _ _ 0)
  have hq := HQ.out
  rcases HT.out with h1 | ⟨h1, h2 | ⟨h2, h3 | ⟨h3, h4 | ⟨h4, h5⟩⟩⟩⟩
  all_goals
    clear HT HQ
    go_wp2
    go_ret
    exact ⟨rfl, Below.setCell (Ext.trans (Ext.trans (Ext.trans (Ext.trans (Ext.trans (Ext.trans (Ext.trans (Ext.trans (Ext.trans (Ext.alloc (Ext.alloc (Below.refl _ _) _) _) b1) b2) b3) b4) b5) b6) b7) b8) b9) (Nat.le_refl _) _⟩

theorem shapeApart_walk' (x y : Cfg) (w : World) : Calls Try.prog 6 #[x.val, y.val] w fun e w' => e = .returned (.bool true) ∧ Below w.heap.size w w' := by
  by_cases hx : x.Ok
  · by_cases hy : y.Ok
    · by_cases he : x.m = y.m ∧ x.c = y.c ∧ x.r = y.r ∧ x.l = y.l ∧ x.h = y.h
      · exact shapeApart_same x y hx hy he w
      · refine shapeApart_other x y hx hy he ?_ w
        simp only [beq_eq_false_iff_ne, beq_iff_eq]
        by_cases h1 : x.c * x.r = y.c * y.r
        · refine .inr ⟨h1, ?_⟩
          by_cases h2 : x.c * x.r * (x.m - 1) = y.c * y.r * (y.m - 1)
          · refine .inr ⟨h2, ?_⟩
            by_cases h3 : x.l + 1 = y.l + 1
            · refine .inr ⟨h3, ?_⟩
              by_cases h4 : x.h = y.h
              · exact .inr ⟨h4, fun h5 => he (apart_plain x y hx h1 h2 h3 h4 h5)⟩
              · exact .inl h4
            · exact .inl h3
          · exact .inl h2
        · exact .inl h1
    · exact shapeApart_bad2 x y hx hy w
  · exact shapeApart_bad1 x y hx w


theorem shapeTells_walk (w : World) (cs : List Value) (y : (Ty.T (.st (.prod .u32 (.prod .int (.prod .int (.prod .int (.prod .int (.prod .int .unit))))))))) (h : Reads w (.st (.prod .u32 (.prod .int (.prod .int (.prod .int (.prod .int (.prod .int .unit))))))) y cs) : Calls Try.prog 4 #[.agg cs.toArray] w fun e w' => e = .returned (.bool true) ∧ Below w.heap.size w w' := by
  obtain ⟨x, hv, _⟩ := cfg_open h
  rw [hv]
  by_cases hx : x.Ok
  · exact shapeTells_ok x hx w
  · exact shapeTells_bad x hx w
theorem shapeFits_walk (w : World) (cs : List Value) (y : (Ty.T (.st (.prod .u32 (.prod .int (.prod .int (.prod .int (.prod .int (.prod .int .unit))))))))) (h : Reads w (.st (.prod .u32 (.prod .int (.prod .int (.prod .int (.prod .int (.prod .int .unit))))))) y cs) : Calls Try.prog 5 #[.agg cs.toArray] w fun e w' => e = .returned (.bool true) ∧ Below w.heap.size w w' := by
  obtain ⟨x, hv, _⟩ := cfg_open h
  rw [hv]
  by_cases hx : x.Ok
  · exact shapeFits_ok x hx w
  · exact shapeFits_bad x hx w
theorem shapeApart_walk (w : World) (cs : List Value) (y : (Ty.T (.st (.prod .u32 (.prod .int (.prod .int (.prod .int (.prod .int (.prod .int .unit))))))))) (h : Reads w (.st (.prod .u32 (.prod .int (.prod .int (.prod .int (.prod .int (.prod .int .unit))))))) y cs) (ds : List Value) (z : (Ty.T (.st (.prod .u32 (.prod .int (.prod .int (.prod .int (.prod .int (.prod .int .unit))))))))) (k : Reads w (.st (.prod .u32 (.prod .int (.prod .int (.prod .int (.prod .int (.prod .int .unit))))))) z ds) : Calls Try.prog 6 #[.agg cs.toArray, .agg ds.toArray] w fun e w' => e = .returned (.bool true) ∧ Below w.heap.size w w' := by
  obtain ⟨x, hv, _⟩ := cfg_open h
  obtain ⟨x', hv', _⟩ := cfg_open k
  rw [hv, hv']
  exact shapeApart_walk' x x' w


set_option maxRecDepth 100000 in
theorem shapeMore_bad (x : Cfg) (a b : UInt8) (hx : ¬ x.Ok) (w : World) : Calls Try.prog 7 #[x.val, .int .u8 a.toNat, .int .u8 b.toNat] w fun e w' => e = .returned (.bool true) ∧ Below w.heap.size w w' := by
  have kx := check_any x
  rw [Cfg.code_bad hx] at kx
  have kx' := Lib.hid kx
  clear kx
  obtain ⟨id, m, c, r, l, h⟩ := x
  clear hx
  unfold Cfg.val at *
  dsimp only at *
  go_enter Try.func7, Try.ntmps7
  have x0 := box_new w #[.int .u32 (id : Int), .int .i64 m, .int .i64 c, .int .i64 r, .int .i64 l, .int .i64 h] 24
  have l0 := lt_new w (.cells #[.int .u32 (id : Int), .int .i64 m, .int .i64 c, .int .i64 r, .int .i64 l, .int .i64 h] 24)
  go_wp2_with fail
  refine (salive_any _).mono ?_
  rintro e w1 ⟨rfl, b1⟩
  have x1 := box_next x0 l0 b1
  have l1 := lt_next l0 b1
  clear x0
  go_wp2_with fail
  refine (kx'.out _).mono ?_
  rintro e w2 ⟨rfl, b2⟩
  have x2 := box_next x1 l1 b2
  have l2 := lt_next l1 b2
  clear x1
  go_wp2
  go_ret
  exact ⟨rfl, (Ext.trans (Ext.trans (Ext.alloc (Below.refl _ _) _) b1) b2)⟩

theorem more_plain (x : Cfg) (hx : x.Ok) (a b : Nat) : (Cfg.mk x.id x.m x.c x.r (min (x.l + a) 255) (max (x.h - b) 2)).Ok := by
  obtain ⟨a1, a2, a3, a4, a5, a6, a7, a8, a9, a10⟩ := Cfg.bounds hx
  have hh : max (x.h - (b : Int)) 2 ≤ x.h := by omega
  have hm : (x.m + 1) * (max (x.h - (b : Int)) 2 + 1) ≤ (x.m + 1) * (x.h + 1) := Int.mul_le_mul_of_nonneg_left (by omega) (by omega)
  refine ⟨⟨a1, a2, a3, a4, a5, a6, by dsimp only; omega, by dsimp only; omega⟩, ?_, by dsimp only; omega⟩
  dsimp only
  omega


set_option maxRecDepth 100000 in
theorem shapeMore_ok (x : Cfg) (a b : UInt8) (hx : x.Ok) (w : World) : Calls Try.prog 7 #[x.val, .int .u8 a.toNat, .int .u8 b.toNat] w fun e w' => e = .returned (.bool true) ∧ Below w.heap.size w w' := by
  have kx := check_any x
  rw [Cfg.code_ok hx] at kx
  have kx' := Lib.hid kx
  clear kx
  have hmn : ∀ (ts : Array TypeId) (t : TypeId) (W : World), (Builtin.min_ ts t #[.int .i64 (x.l + (a.toNat : Int)), .int .i64 255]).run Try.prog W = .ok (.int .i64 (min (x.l + a.toNat) 255)) W := fun ts t W => by rw [run_min_int2]; congr 2; split <;> omega
  have hmx : ∀ (ts : Array TypeId) (t : TypeId) (W : World), (Builtin.max_ ts t #[.int .i64 (x.h - (b.toNat : Int)), .int .i64 2]).run Try.prog W = .ok (.int .i64 (max (x.h - b.toNat) 2)) W := fun ts t W => by rw [run_max_int2]; congr 2; split <;> omega
  have hok : (Cfg.mk x.id x.m x.c x.r (min (x.l + a.toNat) 255) (max (x.h - b.toNat) 2)).Ok := more_plain x hx a.toNat b.toNat
  have kn := check_any (Cfg.mk x.id x.m x.c x.r (min (x.l + a.toNat) 255) (max (x.h - b.toNat) 2))
  rw [Cfg.code_ok hok] at kn
  have kn' := Lib.hid kn
  obtain ⟨a1, a2, a3, a4, a5, a6, a7, a8, a9, a10⟩ := Cfg.bounds hx
  have a15 : 0 ≤ (x.m + 1) * (x.h + 1) := Int.mul_nonneg (by omega) (by omega)
  have a16 := a.toNat_lt
  have a17 := b.toNat_lt
  have a18 : 0 ≤ x.l := by omega
  clear kn hok hx a9 a15
  obtain ⟨id, m, c, r, l, h⟩ := x
  unfold Cfg.val at *
  dsimp only at *
  go_enter Try.func7, Try.ntmps7
  have x0 := box_new w #[.int .u32 (id : Int), .int .i64 m, .int .i64 c, .int .i64 r, .int .i64 l, .int .i64 h] 24
  have l0 := lt_new w (.cells #[.int .u32 (id : Int), .int .i64 m, .int .i64 c, .int .i64 r, .int .i64 l, .int .i64 h] 24)
  go_wp2_with fail
  refine (salive_any _).mono ?_
  rintro e w1 ⟨rfl, b1⟩
  have x1 := box_next x0 l0 b1
  have l1 := lt_next l0 b1
  clear x0
  go_wp2_with fail
  refine (kx'.out _).mono ?_
  rintro e w2 ⟨rfl, b2⟩
  have x2 := box_next x1 l1 b2
  have l2 := lt_next l1 b2
  clear x1
  go_wp2_with fail
  refine (kn'.out _).mono ?_
  rintro e w3 ⟨rfl, b3⟩
  go_wp2
  go_ret
  exact ⟨rfl, Ext.trans (Ext.alloc (Ext.trans (Ext.trans (Ext.alloc (Below.refl _ _) _) b1) b2) _) b3⟩

theorem shapeMore_walk (w : World) (cs : List Value) (y : (Ty.T (.st (.prod .u32 (.prod .int (.prod .int (.prod .int (.prod .int (.prod .int .unit))))))))) (h : Reads w (.st (.prod .u32 (.prod .int (.prod .int (.prod .int (.prod .int (.prod .int .unit))))))) y cs) (v1 : Value) (a : Ty.byte.T) (h1 : Reads w .byte a [v1]) (v2 : Value) (b : Ty.byte.T) (h2 : Reads w .byte b [v2]) : Calls Try.prog 7 #[.agg cs.toArray, v1, v2] w fun e w' => e = .returned (.bool true) ∧ Below w.heap.size w w' := by
  obtain ⟨x, hv, _⟩ := cfg_open h
  rw [hv, one_byte h1, one_byte h2]
  by_cases hx : x.Ok
  · exact shapeMore_ok x a b hx w
  · exact shapeMore_bad x a b hx w

end Go.Proofs.Ytfelnhmefnhpeaa
