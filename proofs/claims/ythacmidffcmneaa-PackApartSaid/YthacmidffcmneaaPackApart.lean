/- The statement PackApart of layer 2 (pack): its walk. Printed by wip/gen_pack3.py. -/
import Derived.Test.YthacmidffcmneaaPackLaws2
namespace Go.Proofs.Ythacmidffcmneaa
open Go.RowKit

theorem box2_a (w : World) (cs ds : Array Value) (t u : TypeId) : ∀ o, ((w.alloc (.cells cs t)).alloc (.cells ds u)).cell? ⟨w.heap.size, o, none⟩ = cs.toList[o]? := fun o => by
  rw [World.cell?_alloc_lt _ _ _ (by simp)]
  exact box_new w cs t o
theorem box2_b (w : World) (cs ds : Array Value) (t u : TypeId) : ∀ o, ((w.alloc (.cells cs t)).alloc (.cells ds u)).cell? ⟨w.heap.size + 1, o, none⟩ = ds.toList[o]? := fun o => by
  have h := box_new (w.alloc (.cells cs t)) ds u o
  rw [World.size_alloc] at h
  exact h
theorem arr3_open {w : World} {cs : List Value} {xs : List Int} (h : Reads w (.arr 3 .int) xs cs) : ∃ y0 y1 y2 : Int, cs.toArray = #[.int .i64 y0, .int .i64 y1, .int .i64 y2] := by
  obtain ⟨hl, hc, hr⟩ := reads_arr.1 h
  match xs, hl with
  | [y0, y1, y2], _ =>
    match cs, hc with
    | [c0, c1, c2], _ =>
      have h0 : _ = [Value.int .i64 y0] := (reads_int.1 (hr 0 (show 0 < 3 by decide))).1
      have h1 : _ = [Value.int .i64 y1] := (reads_int.1 (hr 1 (show 1 < 3 by decide))).1
      have h2 : _ = [Value.int .i64 y2] := (reads_int.1 (hr 2 (show 2 < 3 by decide))).1
      simp [Ty.size] at h0 h1 h2
      refine ⟨y0, y1, y2, ?_⟩
      rw [h0, h1, h2]
theorem put_box {w : World} {g : Nat} {l : List UInt8} (hl : l.length = 128) (p k x : Nat) (h : Box w g (putL (wholeL l) p k x)) : Box w g (putL l p k x) := by rwa [wholeL_full hl] at h


set_option maxRecDepth 100000 in
set_option maxHeartbeats 1000000 in
theorem apart_many (w : World) (A : Option Addr) (n c : Nat) (p k x q m y : Int) (hn : 1000 < n) :
    Calls Try.prog 6 #[.slice A n c, .agg #[.int .i64 (p : Int), .int .i64 (k : Int), .int .i64 (x : Int)], .agg #[.int .i64 (q : Int), .int .i64 (m : Int), .int .i64 (y : Int)]] w fun e w' => e = .returned (.bool true) ∧ Below w.heap.size w w' := by
  have x0 := box2_a w #[.int .i64 (p : Int), .int .i64 (k : Int), .int .i64 (x : Int)] #[.int .i64 (q : Int), .int .i64 (m : Int), .int .i64 (y : Int)] 35 35
  have y0 := box2_b w #[.int .i64 (p : Int), .int .i64 (k : Int), .int .i64 (x : Int)] #[.int .i64 (q : Int), .int .i64 (m : Int), .int .i64 (y : Int)] 35 35
  have l0 : w.heap.size < ((w.alloc (.cells #[.int .i64 (p : Int), .int .i64 (k : Int), .int .i64 (x : Int)] 35)).alloc (.cells #[.int .i64 (q : Int), .int .i64 (m : Int), .int .i64 (y : Int)] 35)).heap.size := by simp; omega
  have m0 : w.heap.size + 1 < ((w.alloc (.cells #[.int .i64 (p : Int), .int .i64 (k : Int), .int .i64 (x : Int)] 35)).alloc (.cells #[.int .i64 (q : Int), .int .i64 (m : Int), .int .i64 (y : Int)] 35)).heap.size := by simp
  have B0 : Below w.heap.size w ((w.alloc (.cells #[.int .i64 (p : Int), .int .i64 (k : Int), .int .i64 (x : Int)] 35)).alloc (.cells #[.int .i64 (q : Int), .int .i64 (m : Int), .int .i64 (y : Int)] 35)) := Ext.alloc (Ext.alloc (Below.refl _ _) _) _
  go_enter Try.func6, Try.ntmps6
  go_wp2_with fail
  refine (kalive_any _).mono ?_
  rintro e w1 ⟨rfl, b1⟩
  have x1 := box_next x0 l0 b1
  have y1 := box_next y0 m0 b1
  have l1 := lt_next l0 b1
  have m1 := lt_next m0 b1
  clear x0 y0 l0 m0
  go_wp2
  go_ret
  exact ⟨rfl, (Ext.trans B0 b1)⟩

set_option maxRecDepth 100000 in
set_option maxHeartbeats 1000000 in
theorem apart_text (w : World) (A : Option Addr) (n c : Nat) (p k x q m y : Int) (h0 : n ≠ 0) (h1 : n ≠ 128) (hn : n ≤ 1000) :
    Calls Try.prog 6 #[.slice A n c, .agg #[.int .i64 (p : Int), .int .i64 (k : Int), .int .i64 (x : Int)], .agg #[.int .i64 (q : Int), .int .i64 (m : Int), .int .i64 (y : Int)]] w fun e w' => e = .returned (.bool true) ∧ Below w.heap.size w w' := by
  have x0 := box2_a w #[.int .i64 (p : Int), .int .i64 (k : Int), .int .i64 (x : Int)] #[.int .i64 (q : Int), .int .i64 (m : Int), .int .i64 (y : Int)] 35 35
  have y0 := box2_b w #[.int .i64 (p : Int), .int .i64 (k : Int), .int .i64 (x : Int)] #[.int .i64 (q : Int), .int .i64 (m : Int), .int .i64 (y : Int)] 35 35
  have l0 : w.heap.size < ((w.alloc (.cells #[.int .i64 (p : Int), .int .i64 (k : Int), .int .i64 (x : Int)] 35)).alloc (.cells #[.int .i64 (q : Int), .int .i64 (m : Int), .int .i64 (y : Int)] 35)).heap.size := by simp; omega
  have m0 : w.heap.size + 1 < ((w.alloc (.cells #[.int .i64 (p : Int), .int .i64 (k : Int), .int .i64 (x : Int)] 35)).alloc (.cells #[.int .i64 (q : Int), .int .i64 (m : Int), .int .i64 (y : Int)] 35)).heap.size := by simp
  have B0 : Below w.heap.size w ((w.alloc (.cells #[.int .i64 (p : Int), .int .i64 (k : Int), .int .i64 (x : Int)] 35)).alloc (.cells #[.int .i64 (q : Int), .int .i64 (m : Int), .int .i64 (y : Int)] 35)) := Ext.alloc (Ext.alloc (Below.refl _ _) _) _
  go_enter Try.func6, Try.ntmps6
  go_wp2_with fail
  refine (kalive_any _).mono ?_
  rintro e w1 ⟨rfl, b1⟩
  have x1 := box_next x0 l0 b1
  have y1 := box_next y0 m0 b1
  have l1 := lt_next l0 b1
  have m1 := lt_next m0 b1
  clear x0 y0 l0 m0
  go_wp2_with fail
  refine (put_text _ _ _ _ _ _ h0 h1 _).mono ?_
  rintro e w2 ⟨rfl, b2⟩
  have x2 := box_next x1 l1 b2
  have y2 := box_next y1 m1 b2
  have l2 := lt_next l1 b2
  have m2 := lt_next m1 b2
  clear x1 y1 l1 m1
  go_wp2_with fail
  refine (put_text _ _ _ _ _ _ h0 h1 _).mono ?_
  rintro e w3 ⟨rfl, b3⟩
  have x3 := box_next x2 l2 b3
  have y3 := box_next y2 m2 b3
  have l3 := lt_next l2 b3
  have m3 := lt_next m2 b3
  clear x2 y2 l2 m2
  go_wp2
  go_ret
  exact ⟨rfl, (Ext.trans (Ext.trans (Ext.trans B0 b1) b2) b3)⟩

set_option maxRecDepth 100000 in
set_option maxHeartbeats 1000000 in
theorem apart_rr (w : World) (A : Option Addr) (n c : Nat) (p k x q m y : Int) (bs : List UInt8) (hn : n = 0 ∨ n = 128) (hb : Bs w A n bs) (hr : Refused p k x) (hs : Refused q m y) :
    Calls Try.prog 6 #[.slice A n c, .agg #[.int .i64 (p : Int), .int .i64 (k : Int), .int .i64 (x : Int)], .agg #[.int .i64 (q : Int), .int .i64 (m : Int), .int .i64 (y : Int)]] w fun e w' => e = .returned (.bool true) ∧ Below w.heap.size w w' := by
  have HN := Lib.hid hn
  have hle : n ≤ 128 := by omega
  clear hn
  have HR := Lib.hid hr
  have HS := Lib.hid hs
  clear hr hs
  have x0 := box2_a w #[.int .i64 (p : Int), .int .i64 (k : Int), .int .i64 (x : Int)] #[.int .i64 (q : Int), .int .i64 (m : Int), .int .i64 (y : Int)] 35 35
  have y0 := box2_b w #[.int .i64 (p : Int), .int .i64 (k : Int), .int .i64 (x : Int)] #[.int .i64 (q : Int), .int .i64 (m : Int), .int .i64 (y : Int)] 35 35
  have l0 : w.heap.size < ((w.alloc (.cells #[.int .i64 (p : Int), .int .i64 (k : Int), .int .i64 (x : Int)] 35)).alloc (.cells #[.int .i64 (q : Int), .int .i64 (m : Int), .int .i64 (y : Int)] 35)).heap.size := by simp; omega
  have m0 : w.heap.size + 1 < ((w.alloc (.cells #[.int .i64 (p : Int), .int .i64 (k : Int), .int .i64 (x : Int)] 35)).alloc (.cells #[.int .i64 (q : Int), .int .i64 (m : Int), .int .i64 (y : Int)] 35)).heap.size := by simp
  have B0 : Below w.heap.size w ((w.alloc (.cells #[.int .i64 (p : Int), .int .i64 (k : Int), .int .i64 (x : Int)] 35)).alloc (.cells #[.int .i64 (q : Int), .int .i64 (m : Int), .int .i64 (y : Int)] 35)) := Ext.alloc (Ext.alloc (Below.refl _ _) _) _
  go_enter Try.func6, Try.ntmps6
  go_wp2_with fail
  refine (kalive_any _).mono ?_
  rintro e w1 ⟨rfl, b1⟩
  have x1 := box_next x0 l0 b1
  have y1 := box_next y0 m0 b1
  have l1 := lt_next l0 b1
  have m1 := lt_next m0 b1
  clear x0 y0 l0 m0
  have hb1 := hb.below (Ext.trans B0 b1)
  go_wp2_with fail
  refine (put_arg _ _ _ bs HN.out _ _ _ HR.out _ hb1).mono ?_
  rintro e w2 ⟨rfl, b2⟩
  have x2 := box_next x1 l1 b2
  have y2 := box_next y1 m1 b2
  have l2 := lt_next l1 b2
  have m2 := lt_next m1 b2
  clear x1 y1 l1 m1
  have hb2 := hb1.below b2
  go_wp2_with fail
  refine (put_arg _ _ _ bs HN.out _ _ _ HS.out _ hb2).mono ?_
  rintro e w3 ⟨rfl, b3⟩
  have x3 := box_next x2 l2 b3
  have y3 := box_next y2 m2 b3
  have l3 := lt_next l2 b3
  have m3 := lt_next m2 b3
  clear x2 y2 l2 m2
  go_wp2
  go_ret
  exact ⟨rfl, (Ext.trans (Ext.trans (Ext.trans B0 b1) b2) b3)⟩

set_option maxRecDepth 100000 in
set_option maxHeartbeats 1000000 in
theorem apart_rf (w : World) (A : Option Addr) (n c : Nat) (p k x : Int) (q m y : Nat) (bs : List UInt8) (hn : n = 0 ∨ n = 128) (hb : Bs w A n bs) (hr : Refused p k x) (hm : 1 ≤ m ∧ m ≤ 4) (hq : q + m ≤ 128) (hy : y < 256 ^ m) :
    Calls Try.prog 6 #[.slice A n c, .agg #[.int .i64 (p : Int), .int .i64 (k : Int), .int .i64 (x : Int)], .agg #[.int .i64 (q : Int), .int .i64 (m : Int), .int .i64 (y : Int)]] w fun e w' => e = .returned (.bool true) ∧ Below w.heap.size w w' := by
  have HN := Lib.hid hn
  have hle : n ≤ 128 := by omega
  clear hn
  have HR := Lib.hid hr
  have HY := Lib.hid hy
  clear hr hy
  have x0 := box2_a w #[.int .i64 (p : Int), .int .i64 (k : Int), .int .i64 (x : Int)] #[.int .i64 (q : Int), .int .i64 (m : Int), .int .i64 (y : Int)] 35 35
  have y0 := box2_b w #[.int .i64 (p : Int), .int .i64 (k : Int), .int .i64 (x : Int)] #[.int .i64 (q : Int), .int .i64 (m : Int), .int .i64 (y : Int)] 35 35
  have l0 : w.heap.size < ((w.alloc (.cells #[.int .i64 (p : Int), .int .i64 (k : Int), .int .i64 (x : Int)] 35)).alloc (.cells #[.int .i64 (q : Int), .int .i64 (m : Int), .int .i64 (y : Int)] 35)).heap.size := by simp; omega
  have m0 : w.heap.size + 1 < ((w.alloc (.cells #[.int .i64 (p : Int), .int .i64 (k : Int), .int .i64 (x : Int)] 35)).alloc (.cells #[.int .i64 (q : Int), .int .i64 (m : Int), .int .i64 (y : Int)] 35)).heap.size := by simp
  have B0 : Below w.heap.size w ((w.alloc (.cells #[.int .i64 (p : Int), .int .i64 (k : Int), .int .i64 (x : Int)] 35)).alloc (.cells #[.int .i64 (q : Int), .int .i64 (m : Int), .int .i64 (y : Int)] 35)) := Ext.alloc (Ext.alloc (Below.refl _ _) _) _
  go_enter Try.func6, Try.ntmps6
  go_wp2_with fail
  refine (kalive_any _).mono ?_
  rintro e w1 ⟨rfl, b1⟩
  have x1 := box_next x0 l0 b1
  have y1 := box_next y0 m0 b1
  have l1 := lt_next l0 b1
  have m1 := lt_next m0 b1
  clear x0 y0 l0 m0
  have hb1 := hb.below (Ext.trans B0 b1)
  go_wp2_with fail
  refine (put_arg _ _ _ bs HN.out _ _ _ HR.out _ hb1).mono ?_
  rintro e w2 ⟨rfl, b2⟩
  have x2 := box_next x1 l1 b2
  have y2 := box_next y1 m1 b2
  have l2 := lt_next l1 b2
  have m2 := lt_next m1 b2
  clear x1 y1 l1 m1
  have hb2 := hb1.below b2
  go_wp2_with fail
  refine (put_ok _ _ _ bs HN.out q m y hm hq HY.out _ hb2).mono ?_
  rintro e w3 ⟨g3, rfl, _, _, b3⟩
  have x3 := box_next x2 l2 b3
  have y3 := box_next y2 m2 b3
  have l3 := lt_next l2 b3
  have m3 := lt_next m2 b3
  clear x2 y2 l2 m2
  go_wp2
  go_ret
  exact ⟨rfl, (Ext.trans (Ext.trans (Ext.trans B0 b1) b2) b3)⟩

set_option maxRecDepth 100000 in
set_option maxHeartbeats 1000000 in
theorem apart_fr (w : World) (A : Option Addr) (n c : Nat) (p k x : Nat) (q m y : Int) (bs : List UInt8) (hn : n = 0 ∨ n = 128) (hb : Bs w A n bs) (hk : 1 ≤ k ∧ k ≤ 4) (hp : p + k ≤ 128) (hx : x < 256 ^ k) (hr : Refused q m y) :
    Calls Try.prog 6 #[.slice A n c, .agg #[.int .i64 (p : Int), .int .i64 (k : Int), .int .i64 (x : Int)], .agg #[.int .i64 (q : Int), .int .i64 (m : Int), .int .i64 (y : Int)]] w fun e w' => e = .returned (.bool true) ∧ Below w.heap.size w w' := by
  have HN := Lib.hid hn
  have hle : n ≤ 128 := by omega
  clear hn
  have HR := Lib.hid hr
  have HX := Lib.hid hx
  clear hr hx
  have x0 := box2_a w #[.int .i64 (p : Int), .int .i64 (k : Int), .int .i64 (x : Int)] #[.int .i64 (q : Int), .int .i64 (m : Int), .int .i64 (y : Int)] 35 35
  have y0 := box2_b w #[.int .i64 (p : Int), .int .i64 (k : Int), .int .i64 (x : Int)] #[.int .i64 (q : Int), .int .i64 (m : Int), .int .i64 (y : Int)] 35 35
  have l0 : w.heap.size < ((w.alloc (.cells #[.int .i64 (p : Int), .int .i64 (k : Int), .int .i64 (x : Int)] 35)).alloc (.cells #[.int .i64 (q : Int), .int .i64 (m : Int), .int .i64 (y : Int)] 35)).heap.size := by simp; omega
  have m0 : w.heap.size + 1 < ((w.alloc (.cells #[.int .i64 (p : Int), .int .i64 (k : Int), .int .i64 (x : Int)] 35)).alloc (.cells #[.int .i64 (q : Int), .int .i64 (m : Int), .int .i64 (y : Int)] 35)).heap.size := by simp
  have B0 : Below w.heap.size w ((w.alloc (.cells #[.int .i64 (p : Int), .int .i64 (k : Int), .int .i64 (x : Int)] 35)).alloc (.cells #[.int .i64 (q : Int), .int .i64 (m : Int), .int .i64 (y : Int)] 35)) := Ext.alloc (Ext.alloc (Below.refl _ _) _) _
  go_enter Try.func6, Try.ntmps6
  go_wp2_with fail
  refine (kalive_any _).mono ?_
  rintro e w1 ⟨rfl, b1⟩
  have x1 := box_next x0 l0 b1
  have y1 := box_next y0 m0 b1
  have l1 := lt_next l0 b1
  have m1 := lt_next m0 b1
  clear x0 y0 l0 m0
  have hb1 := hb.below (Ext.trans B0 b1)
  go_wp2_with fail
  refine (put_ok _ _ _ bs HN.out p k x hk hp HX.out _ hb1).mono ?_
  rintro e w2 ⟨g2, rfl, _, _, b2⟩
  have x2 := box_next x1 l1 b2
  have y2 := box_next y1 m1 b2
  have l2 := lt_next l1 b2
  have m2 := lt_next m1 b2
  clear x1 y1 l1 m1
  have hb2 := hb1.below b2
  go_wp2_with fail
  refine (put_arg _ _ _ bs HN.out _ _ _ HR.out _ hb2).mono ?_
  rintro e w3 ⟨rfl, b3⟩
  have x3 := box_next x2 l2 b3
  have y3 := box_next y2 m2 b3
  have l3 := lt_next l2 b3
  have m3 := lt_next m2 b3
  clear x2 y2 l2 m2
  go_wp2
  go_ret
  exact ⟨rfl, (Ext.trans (Ext.trans (Ext.trans B0 b1) b2) b3)⟩

set_option maxRecDepth 100000 in
set_option maxHeartbeats 1000000 in
theorem apart_d1 (w : World) (A : Option Addr) (n c : Nat) (p k x q m y : Nat) (bs : List UInt8) (hn : n = 0 ∨ n = 128) (hb : Bs w A n bs) (hk : 1 ≤ k ∧ k ≤ 4) (hp : p + k ≤ 128) (hx : x < 256 ^ k) (hm : 1 ≤ m ∧ m ≤ 4) (hq : q + m ≤ 128) (hy : y < 256 ^ m) (h1 : p + k ≤ q) :
    Calls Try.prog 6 #[.slice A n c, .agg #[.int .i64 (p : Int), .int .i64 (k : Int), .int .i64 (x : Int)], .agg #[.int .i64 (q : Int), .int .i64 (m : Int), .int .i64 (y : Int)]] w fun e w' => e = .returned (.bool true) ∧ Below w.heap.size w w' := by
  have hlen := wholeL_len hb.1 hn
  have HN := Lib.hid hn
  have hle : n ≤ 128 := by omega
  clear hn
  have HX := Lib.hid hx
  have HY := Lib.hid hy
  clear hx hy
  have x0 := box2_a w #[.int .i64 (p : Int), .int .i64 (k : Int), .int .i64 (x : Int)] #[.int .i64 (q : Int), .int .i64 (m : Int), .int .i64 (y : Int)] 35 35
  have y0 := box2_b w #[.int .i64 (p : Int), .int .i64 (k : Int), .int .i64 (x : Int)] #[.int .i64 (q : Int), .int .i64 (m : Int), .int .i64 (y : Int)] 35 35
  have l0 : w.heap.size < ((w.alloc (.cells #[.int .i64 (p : Int), .int .i64 (k : Int), .int .i64 (x : Int)] 35)).alloc (.cells #[.int .i64 (q : Int), .int .i64 (m : Int), .int .i64 (y : Int)] 35)).heap.size := by simp; omega
  have m0 : w.heap.size + 1 < ((w.alloc (.cells #[.int .i64 (p : Int), .int .i64 (k : Int), .int .i64 (x : Int)] 35)).alloc (.cells #[.int .i64 (q : Int), .int .i64 (m : Int), .int .i64 (y : Int)] 35)).heap.size := by simp
  have B0 : Below w.heap.size w ((w.alloc (.cells #[.int .i64 (p : Int), .int .i64 (k : Int), .int .i64 (x : Int)] 35)).alloc (.cells #[.int .i64 (q : Int), .int .i64 (m : Int), .int .i64 (y : Int)] 35)) := Ext.alloc (Ext.alloc (Below.refl _ _) _) _
  go_enter Try.func6, Try.ntmps6
  go_wp2_with fail
  refine (kalive_any _).mono ?_
  rintro e w1 ⟨rfl, b1⟩
  have x1 := box_next x0 l0 b1
  have y1 := box_next y0 m0 b1
  have l1 := lt_next l0 b1
  have m1 := lt_next m0 b1
  clear x0 y0 l0 m0
  have hb1 := hb.below (Ext.trans B0 b1)
  go_wp2_with fail
  refine (put_ok _ _ _ bs HN.out p k x hk hp HX.out _ hb1).mono ?_
  rintro e w2 ⟨g2, rfl, _, bx2, b2⟩
  have x2 := box_next x1 l1 b2
  have y2 := box_next y1 m1 b2
  have l2 := lt_next l1 b2
  have m2 := lt_next m1 b2
  clear x1 y1 l1 m1
  have hb2 := hb1.below b2
  have lt2 := bx2.lt
  go_wp2_with fail
  refine (put_ok _ _ _ bs HN.out q m y hm hq HY.out _ hb2).mono ?_
  rintro e w3 ⟨g3, rfl, _, bx3, b3⟩
  have x3 := box_next x2 l2 b3
  have y3 := box_next y2 m2 b3
  have l3 := lt_next l2 b3
  have m3 := lt_next m2 b3
  clear x2 y2 l2 m2
  have by3 := bx2.below b3 lt2
  have lt3 := bx3.lt
  clear hb hb1 hb2 bx2
  generalize wholeL bs = L at hlen bx3 by3
  go_wp2_with fail
  refine (put_ok (some ⟨g2, 0, none⟩) 128 128 _ (.inr rfl) q m y hm hq HY.out _ by3.bs).mono ?_
  rintro e w4 ⟨g4, rfl, _, bx4, b4⟩
  have x4 := box_next x3 l3 b4
  have y4 := box_next y3 m3 b4
  have l4 := lt_next l3 b4
  have m4 := lt_next m3 b4
  clear x3 y3 l3 m3
  have lt4 := bx4.lt
  have bx4 := put_box (by rw [putL_len]; exact hlen) _ _ _ bx4
  have by4 := by3.below b4 (Nat.lt_of_lt_of_le lt2 b3.size)
  have bz4 := bx3.below b4 lt3
  clear bx3 by3
  go_wp2_with fail
  refine (put_ok (some ⟨g3, 0, none⟩) 128 128 _ (.inr rfl) p k x hk hp HX.out _ bz4.bs).mono ?_
  rintro e w5 ⟨g5, rfl, _, bx5, b5⟩
  have x5 := box_next x4 l4 b5
  have y5 := box_next y4 m4 b5
  have l5 := lt_next l4 b5
  have m5 := lt_next m4 b5
  clear x4 y4 l4 m4
  have bx5 := put_box (by rw [putL_len]; exact hlen) _ _ _ bx5
  have by5 := bx4.below b5 lt4
  have s2 := (by4.below b5 (Nat.lt_of_lt_of_le (Nat.lt_of_lt_of_le lt2 b3.size) b4.size)).bs
  have s3 := (bz4.below b5 (Nat.lt_of_lt_of_le lt3 b4.size)).bs
  have s4 := by5.bs
  have s5 := bx5.bs
  have bt := (Ext.trans (Ext.trans (Ext.trans (Ext.trans (Ext.trans B0 b1) b2) b3) b4) b5)
  clear bx4 by4 bz4 by5 bx5 B0 b1 b2 b3 b4 lt2 lt3 lt4
  have hd : p + k ≤ q ∨ q + m ≤ p := .inl h1
  rw [put_apart L p k x q m y (by omega) (by omega) hd] at s4
  have ht := take_apart L p k x q m y (by omega) (by omega) hd HX.out
  rw [put_apart L p k x q m y (by omega) (by omega) hd] at ht
  generalize putL (putL L q m y) p k x = D at s4 s5 ht
  have hl4 : wholeL D = D := wholeL_full s4.1
  clear hd s2 s3
  go_wp2_with fail
  refine (take_ok (some ⟨g4, 0, none⟩) 128 128 D (.inr rfl) p k hk hp _ s4).mono ?_
  rintro e w6 ⟨he, b6⟩
  have x6 := box_next x5 l5 b6
  have y6 := box_next y5 m5 b6
  have l6 := lt_next l5 b6
  have m6 := lt_next m5 b6
  clear x5 y5 l5 m5
  rw [hl4, ht] at he
  subst he
  have q4 := run_string_bs (P := Try.prog) 128 22 9 5 Try.underlying22 Try.underlying5 Try.underlying9 (s4.below b6)
  have q5 := run_string_bs (P := Try.prog) 128 22 9 5 Try.underlying22 Try.underlying5 Try.underlying9 (s5.below b6)
  have bt6 := Ext.trans bt b6
  clear s4 s5 b5 b6 ht hl4 bt
  go_wp2
  go_ret
  exact ⟨rfl, bt6⟩

set_option maxRecDepth 100000 in
set_option maxHeartbeats 1000000 in
theorem apart_d2 (w : World) (A : Option Addr) (n c : Nat) (p k x q m y : Nat) (bs : List UInt8) (hn : n = 0 ∨ n = 128) (hb : Bs w A n bs) (hk : 1 ≤ k ∧ k ≤ 4) (hp : p + k ≤ 128) (hx : x < 256 ^ k) (hm : 1 ≤ m ∧ m ≤ 4) (hq : q + m ≤ 128) (hy : y < 256 ^ m) (h1 : q < p + k) (h2 : q + m ≤ p) :
    Calls Try.prog 6 #[.slice A n c, .agg #[.int .i64 (p : Int), .int .i64 (k : Int), .int .i64 (x : Int)], .agg #[.int .i64 (q : Int), .int .i64 (m : Int), .int .i64 (y : Int)]] w fun e w' => e = .returned (.bool true) ∧ Below w.heap.size w w' := by
  have hlen := wholeL_len hb.1 hn
  have HN := Lib.hid hn
  have hle : n ≤ 128 := by omega
  clear hn
  have HX := Lib.hid hx
  have HY := Lib.hid hy
  clear hx hy
  have x0 := box2_a w #[.int .i64 (p : Int), .int .i64 (k : Int), .int .i64 (x : Int)] #[.int .i64 (q : Int), .int .i64 (m : Int), .int .i64 (y : Int)] 35 35
  have y0 := box2_b w #[.int .i64 (p : Int), .int .i64 (k : Int), .int .i64 (x : Int)] #[.int .i64 (q : Int), .int .i64 (m : Int), .int .i64 (y : Int)] 35 35
  have l0 : w.heap.size < ((w.alloc (.cells #[.int .i64 (p : Int), .int .i64 (k : Int), .int .i64 (x : Int)] 35)).alloc (.cells #[.int .i64 (q : Int), .int .i64 (m : Int), .int .i64 (y : Int)] 35)).heap.size := by simp; omega
  have m0 : w.heap.size + 1 < ((w.alloc (.cells #[.int .i64 (p : Int), .int .i64 (k : Int), .int .i64 (x : Int)] 35)).alloc (.cells #[.int .i64 (q : Int), .int .i64 (m : Int), .int .i64 (y : Int)] 35)).heap.size := by simp
  have B0 : Below w.heap.size w ((w.alloc (.cells #[.int .i64 (p : Int), .int .i64 (k : Int), .int .i64 (x : Int)] 35)).alloc (.cells #[.int .i64 (q : Int), .int .i64 (m : Int), .int .i64 (y : Int)] 35)) := Ext.alloc (Ext.alloc (Below.refl _ _) _) _
  go_enter Try.func6, Try.ntmps6
  go_wp2_with fail
  refine (kalive_any _).mono ?_
  rintro e w1 ⟨rfl, b1⟩
  have x1 := box_next x0 l0 b1
  have y1 := box_next y0 m0 b1
  have l1 := lt_next l0 b1
  have m1 := lt_next m0 b1
  clear x0 y0 l0 m0
  have hb1 := hb.below (Ext.trans B0 b1)
  go_wp2_with fail
  refine (put_ok _ _ _ bs HN.out p k x hk hp HX.out _ hb1).mono ?_
  rintro e w2 ⟨g2, rfl, _, bx2, b2⟩
  have x2 := box_next x1 l1 b2
  have y2 := box_next y1 m1 b2
  have l2 := lt_next l1 b2
  have m2 := lt_next m1 b2
  clear x1 y1 l1 m1
  have hb2 := hb1.below b2
  have lt2 := bx2.lt
  go_wp2_with fail
  refine (put_ok _ _ _ bs HN.out q m y hm hq HY.out _ hb2).mono ?_
  rintro e w3 ⟨g3, rfl, _, bx3, b3⟩
  have x3 := box_next x2 l2 b3
  have y3 := box_next y2 m2 b3
  have l3 := lt_next l2 b3
  have m3 := lt_next m2 b3
  clear x2 y2 l2 m2
  have by3 := bx2.below b3 lt2
  have lt3 := bx3.lt
  clear hb hb1 hb2 bx2
  generalize wholeL bs = L at hlen bx3 by3
  go_wp2_with fail
  refine (put_ok (some ⟨g2, 0, none⟩) 128 128 _ (.inr rfl) q m y hm hq HY.out _ by3.bs).mono ?_
  rintro e w4 ⟨g4, rfl, _, bx4, b4⟩
  have x4 := box_next x3 l3 b4
  have y4 := box_next y3 m3 b4
  have l4 := lt_next l3 b4
  have m4 := lt_next m3 b4
  clear x3 y3 l3 m3
  have lt4 := bx4.lt
  have bx4 := put_box (by rw [putL_len]; exact hlen) _ _ _ bx4
  have by4 := by3.below b4 (Nat.lt_of_lt_of_le lt2 b3.size)
  have bz4 := bx3.below b4 lt3
  clear bx3 by3
  go_wp2_with fail
  refine (put_ok (some ⟨g3, 0, none⟩) 128 128 _ (.inr rfl) p k x hk hp HX.out _ bz4.bs).mono ?_
  rintro e w5 ⟨g5, rfl, _, bx5, b5⟩
  have x5 := box_next x4 l4 b5
  have y5 := box_next y4 m4 b5
  have l5 := lt_next l4 b5
  have m5 := lt_next m4 b5
  clear x4 y4 l4 m4
  have bx5 := put_box (by rw [putL_len]; exact hlen) _ _ _ bx5
  have by5 := bx4.below b5 lt4
  have s2 := (by4.below b5 (Nat.lt_of_lt_of_le (Nat.lt_of_lt_of_le lt2 b3.size) b4.size)).bs
  have s3 := (bz4.below b5 (Nat.lt_of_lt_of_le lt3 b4.size)).bs
  have s4 := by5.bs
  have s5 := bx5.bs
  have bt := (Ext.trans (Ext.trans (Ext.trans (Ext.trans (Ext.trans B0 b1) b2) b3) b4) b5)
  clear bx4 by4 bz4 by5 bx5 B0 b1 b2 b3 b4 lt2 lt3 lt4
  have hd : p + k ≤ q ∨ q + m ≤ p := .inr h2
  rw [put_apart L p k x q m y (by omega) (by omega) hd] at s4
  have ht := take_apart L p k x q m y (by omega) (by omega) hd HX.out
  rw [put_apart L p k x q m y (by omega) (by omega) hd] at ht
  generalize putL (putL L q m y) p k x = D at s4 s5 ht
  have hl4 : wholeL D = D := wholeL_full s4.1
  clear hd s2 s3
  go_wp2_with fail
  refine (take_ok (some ⟨g4, 0, none⟩) 128 128 D (.inr rfl) p k hk hp _ s4).mono ?_
  rintro e w6 ⟨he, b6⟩
  have x6 := box_next x5 l5 b6
  have y6 := box_next y5 m5 b6
  have l6 := lt_next l5 b6
  have m6 := lt_next m5 b6
  clear x5 y5 l5 m5
  rw [hl4, ht] at he
  subst he
  have q4 := run_string_bs (P := Try.prog) 128 22 9 5 Try.underlying22 Try.underlying5 Try.underlying9 (s4.below b6)
  have q5 := run_string_bs (P := Try.prog) 128 22 9 5 Try.underlying22 Try.underlying5 Try.underlying9 (s5.below b6)
  have bt6 := Ext.trans bt b6
  clear s4 s5 b5 b6 ht hl4 bt
  go_wp2
  go_ret
  exact ⟨rfl, bt6⟩

set_option maxRecDepth 100000 in
set_option maxHeartbeats 1000000 in
theorem apart_n1 (w : World) (A : Option Addr) (n c : Nat) (p k x q m y : Nat) (bs : List UInt8) (hn : n = 0 ∨ n = 128) (hb : Bs w A n bs) (hk : 1 ≤ k ∧ k ≤ 4) (hp : p + k ≤ 128) (hx : x < 256 ^ k) (hm : 1 ≤ m ∧ m ≤ 4) (hq : q + m ≤ 128) (hy : y < 256 ^ m) (h1 : q < p + k) (h2 : p < q + m) (h3 : (((p : Int) != (q : Int))) = true) :
    Calls Try.prog 6 #[.slice A n c, .agg #[.int .i64 (p : Int), .int .i64 (k : Int), .int .i64 (x : Int)], .agg #[.int .i64 (q : Int), .int .i64 (m : Int), .int .i64 (y : Int)]] w fun e w' => e = .returned (.bool true) ∧ Below w.heap.size w w' := by
  have hlen := wholeL_len hb.1 hn
  have HN := Lib.hid hn
  have hle : n ≤ 128 := by omega
  clear hn
  have HX := Lib.hid hx
  have HY := Lib.hid hy
  clear hx hy
  have x0 := box2_a w #[.int .i64 (p : Int), .int .i64 (k : Int), .int .i64 (x : Int)] #[.int .i64 (q : Int), .int .i64 (m : Int), .int .i64 (y : Int)] 35 35
  have y0 := box2_b w #[.int .i64 (p : Int), .int .i64 (k : Int), .int .i64 (x : Int)] #[.int .i64 (q : Int), .int .i64 (m : Int), .int .i64 (y : Int)] 35 35
  have l0 : w.heap.size < ((w.alloc (.cells #[.int .i64 (p : Int), .int .i64 (k : Int), .int .i64 (x : Int)] 35)).alloc (.cells #[.int .i64 (q : Int), .int .i64 (m : Int), .int .i64 (y : Int)] 35)).heap.size := by simp; omega
  have m0 : w.heap.size + 1 < ((w.alloc (.cells #[.int .i64 (p : Int), .int .i64 (k : Int), .int .i64 (x : Int)] 35)).alloc (.cells #[.int .i64 (q : Int), .int .i64 (m : Int), .int .i64 (y : Int)] 35)).heap.size := by simp
  have B0 : Below w.heap.size w ((w.alloc (.cells #[.int .i64 (p : Int), .int .i64 (k : Int), .int .i64 (x : Int)] 35)).alloc (.cells #[.int .i64 (q : Int), .int .i64 (m : Int), .int .i64 (y : Int)] 35)) := Ext.alloc (Ext.alloc (Below.refl _ _) _) _
  go_enter Try.func6, Try.ntmps6
  go_wp2_with fail
  refine (kalive_any _).mono ?_
  rintro e w1 ⟨rfl, b1⟩
  have x1 := box_next x0 l0 b1
  have y1 := box_next y0 m0 b1
  have l1 := lt_next l0 b1
  have m1 := lt_next m0 b1
  clear x0 y0 l0 m0
  have hb1 := hb.below (Ext.trans B0 b1)
  go_wp2_with fail
  refine (put_ok _ _ _ bs HN.out p k x hk hp HX.out _ hb1).mono ?_
  rintro e w2 ⟨g2, rfl, _, bx2, b2⟩
  have x2 := box_next x1 l1 b2
  have y2 := box_next y1 m1 b2
  have l2 := lt_next l1 b2
  have m2 := lt_next m1 b2
  clear x1 y1 l1 m1
  have hb2 := hb1.below b2
  have lt2 := bx2.lt
  go_wp2_with fail
  refine (put_ok _ _ _ bs HN.out q m y hm hq HY.out _ hb2).mono ?_
  rintro e w3 ⟨g3, rfl, _, bx3, b3⟩
  have x3 := box_next x2 l2 b3
  have y3 := box_next y2 m2 b3
  have l3 := lt_next l2 b3
  have m3 := lt_next m2 b3
  clear x2 y2 l2 m2
  have by3 := bx2.below b3 lt2
  have lt3 := bx3.lt
  clear hb hb1 hb2 bx2
  generalize wholeL bs = L at hlen bx3 by3
  go_wp2_with fail
  refine (put_ok (some ⟨g2, 0, none⟩) 128 128 _ (.inr rfl) q m y hm hq HY.out _ by3.bs).mono ?_
  rintro e w4 ⟨g4, rfl, _, bx4, b4⟩
  have x4 := box_next x3 l3 b4
  have y4 := box_next y3 m3 b4
  have l4 := lt_next l3 b4
  have m4 := lt_next m3 b4
  clear x3 y3 l3 m3
  have lt4 := bx4.lt
  have bx4 := put_box (by rw [putL_len]; exact hlen) _ _ _ bx4
  have by4 := by3.below b4 (Nat.lt_of_lt_of_le lt2 b3.size)
  have bz4 := bx3.below b4 lt3
  clear bx3 by3
  go_wp2_with fail
  refine (put_ok (some ⟨g3, 0, none⟩) 128 128 _ (.inr rfl) p k x hk hp HX.out _ bz4.bs).mono ?_
  rintro e w5 ⟨g5, rfl, _, bx5, b5⟩
  have x5 := box_next x4 l4 b5
  have y5 := box_next y4 m4 b5
  have l5 := lt_next l4 b5
  have m5 := lt_next m4 b5
  clear x4 y4 l4 m4
  have bx5 := put_box (by rw [putL_len]; exact hlen) _ _ _ bx5
  have by5 := bx4.below b5 lt4
  have s2 := (by4.below b5 (Nat.lt_of_lt_of_le (Nat.lt_of_lt_of_le lt2 b3.size) b4.size)).bs
  have s3 := (bz4.below b5 (Nat.lt_of_lt_of_le lt3 b4.size)).bs
  have s4 := by5.bs
  have s5 := bx5.bs
  have bt := (Ext.trans (Ext.trans (Ext.trans (Ext.trans (Ext.trans B0 b1) b2) b3) b4) b5)
  clear bx4 by4 bz4 by5 bx5 B0 b1 b2 b3 b4 lt2 lt3 lt4
  clear s2 s3 s4 s5 b5
  go_wp2
  go_ret
  exact ⟨rfl, bt⟩

set_option maxRecDepth 100000 in
set_option maxHeartbeats 1000000 in
theorem apart_n2 (w : World) (A : Option Addr) (n c : Nat) (p k x q m y : Nat) (bs : List UInt8) (hn : n = 0 ∨ n = 128) (hb : Bs w A n bs) (hk : 1 ≤ k ∧ k ≤ 4) (hp : p + k ≤ 128) (hx : x < 256 ^ k) (hm : 1 ≤ m ∧ m ≤ 4) (hq : q + m ≤ 128) (hy : y < 256 ^ m) (h1 : q < p + k) (h2 : p < q + m) (h3 : (((p : Int) != (q : Int))) = false) (h4 : (((k : Int) != (m : Int))) = true) :
    Calls Try.prog 6 #[.slice A n c, .agg #[.int .i64 (p : Int), .int .i64 (k : Int), .int .i64 (x : Int)], .agg #[.int .i64 (q : Int), .int .i64 (m : Int), .int .i64 (y : Int)]] w fun e w' => e = .returned (.bool true) ∧ Below w.heap.size w w' := by
  have hlen := wholeL_len hb.1 hn
  have HN := Lib.hid hn
  have hle : n ≤ 128 := by omega
  clear hn
  have HX := Lib.hid hx
  have HY := Lib.hid hy
  clear hx hy
  have x0 := box2_a w #[.int .i64 (p : Int), .int .i64 (k : Int), .int .i64 (x : Int)] #[.int .i64 (q : Int), .int .i64 (m : Int), .int .i64 (y : Int)] 35 35
  have y0 := box2_b w #[.int .i64 (p : Int), .int .i64 (k : Int), .int .i64 (x : Int)] #[.int .i64 (q : Int), .int .i64 (m : Int), .int .i64 (y : Int)] 35 35
  have l0 : w.heap.size < ((w.alloc (.cells #[.int .i64 (p : Int), .int .i64 (k : Int), .int .i64 (x : Int)] 35)).alloc (.cells #[.int .i64 (q : Int), .int .i64 (m : Int), .int .i64 (y : Int)] 35)).heap.size := by simp; omega
  have m0 : w.heap.size + 1 < ((w.alloc (.cells #[.int .i64 (p : Int), .int .i64 (k : Int), .int .i64 (x : Int)] 35)).alloc (.cells #[.int .i64 (q : Int), .int .i64 (m : Int), .int .i64 (y : Int)] 35)).heap.size := by simp
  have B0 : Below w.heap.size w ((w.alloc (.cells #[.int .i64 (p : Int), .int .i64 (k : Int), .int .i64 (x : Int)] 35)).alloc (.cells #[.int .i64 (q : Int), .int .i64 (m : Int), .int .i64 (y : Int)] 35)) := Ext.alloc (Ext.alloc (Below.refl _ _) _) _
  go_enter Try.func6, Try.ntmps6
  go_wp2_with fail
  refine (kalive_any _).mono ?_
  rintro e w1 ⟨rfl, b1⟩
  have x1 := box_next x0 l0 b1
  have y1 := box_next y0 m0 b1
  have l1 := lt_next l0 b1
  have m1 := lt_next m0 b1
  clear x0 y0 l0 m0
  have hb1 := hb.below (Ext.trans B0 b1)
  go_wp2_with fail
  refine (put_ok _ _ _ bs HN.out p k x hk hp HX.out _ hb1).mono ?_
  rintro e w2 ⟨g2, rfl, _, bx2, b2⟩
  have x2 := box_next x1 l1 b2
  have y2 := box_next y1 m1 b2
  have l2 := lt_next l1 b2
  have m2 := lt_next m1 b2
  clear x1 y1 l1 m1
  have hb2 := hb1.below b2
  have lt2 := bx2.lt
  go_wp2_with fail
  refine (put_ok _ _ _ bs HN.out q m y hm hq HY.out _ hb2).mono ?_
  rintro e w3 ⟨g3, rfl, _, bx3, b3⟩
  have x3 := box_next x2 l2 b3
  have y3 := box_next y2 m2 b3
  have l3 := lt_next l2 b3
  have m3 := lt_next m2 b3
  clear x2 y2 l2 m2
  have by3 := bx2.below b3 lt2
  have lt3 := bx3.lt
  clear hb hb1 hb2 bx2
  generalize wholeL bs = L at hlen bx3 by3
  go_wp2_with fail
  refine (put_ok (some ⟨g2, 0, none⟩) 128 128 _ (.inr rfl) q m y hm hq HY.out _ by3.bs).mono ?_
  rintro e w4 ⟨g4, rfl, _, bx4, b4⟩
  have x4 := box_next x3 l3 b4
  have y4 := box_next y3 m3 b4
  have l4 := lt_next l3 b4
  have m4 := lt_next m3 b4
  clear x3 y3 l3 m3
  have lt4 := bx4.lt
  have bx4 := put_box (by rw [putL_len]; exact hlen) _ _ _ bx4
  have by4 := by3.below b4 (Nat.lt_of_lt_of_le lt2 b3.size)
  have bz4 := bx3.below b4 lt3
  clear bx3 by3
  go_wp2_with fail
  refine (put_ok (some ⟨g3, 0, none⟩) 128 128 _ (.inr rfl) p k x hk hp HX.out _ bz4.bs).mono ?_
  rintro e w5 ⟨g5, rfl, _, bx5, b5⟩
  have x5 := box_next x4 l4 b5
  have y5 := box_next y4 m4 b5
  have l5 := lt_next l4 b5
  have m5 := lt_next m4 b5
  clear x4 y4 l4 m4
  have bx5 := put_box (by rw [putL_len]; exact hlen) _ _ _ bx5
  have by5 := bx4.below b5 lt4
  have s2 := (by4.below b5 (Nat.lt_of_lt_of_le (Nat.lt_of_lt_of_le lt2 b3.size) b4.size)).bs
  have s3 := (bz4.below b5 (Nat.lt_of_lt_of_le lt3 b4.size)).bs
  have s4 := by5.bs
  have s5 := bx5.bs
  have bt := (Ext.trans (Ext.trans (Ext.trans (Ext.trans (Ext.trans B0 b1) b2) b3) b4) b5)
  clear bx4 by4 bz4 by5 bx5 B0 b1 b2 b3 b4 lt2 lt3 lt4
  clear s2 s3 s4 s5 b5
  go_wp2
  go_ret
  exact ⟨rfl, bt⟩

set_option maxRecDepth 100000 in
set_option maxHeartbeats 1000000 in
theorem apart_n3 (w : World) (A : Option Addr) (n c : Nat) (p k x y : Nat) (bs : List UInt8) (hn : n = 0 ∨ n = 128) (hb : Bs w A n bs) (hk : 1 ≤ k ∧ k ≤ 4) (hp : p + k ≤ 128) (hx : x < 256 ^ k) (hy : y < 256 ^ k)  :
    Calls Try.prog 6 #[.slice A n c, .agg #[.int .i64 (p : Int), .int .i64 (k : Int), .int .i64 (x : Int)], .agg #[.int .i64 (p : Int), .int .i64 (k : Int), .int .i64 (y : Int)]] w fun e w' => e = .returned (.bool true) ∧ Below w.heap.size w w' := by
  have hlen := wholeL_len hb.1 hn
  have HN := Lib.hid hn
  have hle : n ≤ 128 := by omega
  clear hn
  have HX := Lib.hid hx
  have HY := Lib.hid hy
  clear hx hy
  have x0 := box2_a w #[.int .i64 (p : Int), .int .i64 (k : Int), .int .i64 (x : Int)] #[.int .i64 (p : Int), .int .i64 (k : Int), .int .i64 (y : Int)] 35 35
  have y0 := box2_b w #[.int .i64 (p : Int), .int .i64 (k : Int), .int .i64 (x : Int)] #[.int .i64 (p : Int), .int .i64 (k : Int), .int .i64 (y : Int)] 35 35
  have l0 : w.heap.size < ((w.alloc (.cells #[.int .i64 (p : Int), .int .i64 (k : Int), .int .i64 (x : Int)] 35)).alloc (.cells #[.int .i64 (p : Int), .int .i64 (k : Int), .int .i64 (y : Int)] 35)).heap.size := by simp; omega
  have m0 : w.heap.size + 1 < ((w.alloc (.cells #[.int .i64 (p : Int), .int .i64 (k : Int), .int .i64 (x : Int)] 35)).alloc (.cells #[.int .i64 (p : Int), .int .i64 (k : Int), .int .i64 (y : Int)] 35)).heap.size := by simp
  have B0 : Below w.heap.size w ((w.alloc (.cells #[.int .i64 (p : Int), .int .i64 (k : Int), .int .i64 (x : Int)] 35)).alloc (.cells #[.int .i64 (p : Int), .int .i64 (k : Int), .int .i64 (y : Int)] 35)) := Ext.alloc (Ext.alloc (Below.refl _ _) _) _
  go_enter Try.func6, Try.ntmps6
  go_wp2_with fail
  refine (kalive_any _).mono ?_
  rintro e w1 ⟨rfl, b1⟩
  have x1 := box_next x0 l0 b1
  have y1 := box_next y0 m0 b1
  have l1 := lt_next l0 b1
  have m1 := lt_next m0 b1
  clear x0 y0 l0 m0
  have hb1 := hb.below (Ext.trans B0 b1)
  go_wp2_with fail
  refine (put_ok _ _ _ bs HN.out p k x hk hp HX.out _ hb1).mono ?_
  rintro e w2 ⟨g2, rfl, _, bx2, b2⟩
  have x2 := box_next x1 l1 b2
  have y2 := box_next y1 m1 b2
  have l2 := lt_next l1 b2
  have m2 := lt_next m1 b2
  clear x1 y1 l1 m1
  have hb2 := hb1.below b2
  have lt2 := bx2.lt
  go_wp2_with fail
  refine (put_ok _ _ _ bs HN.out p k y hk hp HY.out _ hb2).mono ?_
  rintro e w3 ⟨g3, rfl, _, bx3, b3⟩
  have x3 := box_next x2 l2 b3
  have y3 := box_next y2 m2 b3
  have l3 := lt_next l2 b3
  have m3 := lt_next m2 b3
  clear x2 y2 l2 m2
  have by3 := bx2.below b3 lt2
  have lt3 := bx3.lt
  clear hb hb1 hb2 bx2
  generalize wholeL bs = L at hlen bx3 by3
  go_wp2_with fail
  refine (put_ok (some ⟨g2, 0, none⟩) 128 128 _ (.inr rfl) p k y hk hp HY.out _ by3.bs).mono ?_
  rintro e w4 ⟨g4, rfl, _, bx4, b4⟩
  have x4 := box_next x3 l3 b4
  have y4 := box_next y3 m3 b4
  have l4 := lt_next l3 b4
  have m4 := lt_next m3 b4
  clear x3 y3 l3 m3
  have lt4 := bx4.lt
  have bx4 := put_box (by rw [putL_len]; exact hlen) _ _ _ bx4
  have by4 := by3.below b4 (Nat.lt_of_lt_of_le lt2 b3.size)
  have bz4 := bx3.below b4 lt3
  clear bx3 by3
  go_wp2_with fail
  refine (put_ok (some ⟨g3, 0, none⟩) 128 128 _ (.inr rfl) p k x hk hp HX.out _ bz4.bs).mono ?_
  rintro e w5 ⟨g5, rfl, _, bx5, b5⟩
  have x5 := box_next x4 l4 b5
  have y5 := box_next y4 m4 b5
  have l5 := lt_next l4 b5
  have m5 := lt_next m4 b5
  clear x4 y4 l4 m4
  have bx5 := put_box (by rw [putL_len]; exact hlen) _ _ _ bx5
  have by5 := bx4.below b5 lt4
  have s2 := (by4.below b5 (Nat.lt_of_lt_of_le (Nat.lt_of_lt_of_le lt2 b3.size) b4.size)).bs
  have s3 := (bz4.below b5 (Nat.lt_of_lt_of_le lt3 b4.size)).bs
  have s4 := by5.bs
  have s5 := bx5.bs
  have bt := (Ext.trans (Ext.trans (Ext.trans (Ext.trans (Ext.trans B0 b1) b2) b3) b4) b5)
  clear bx4 by4 bz4 by5 bx5 B0 b1 b2 b3 b4 lt2 lt3 lt4
  rw [put_twice L p k x y (by omega)] at s4
  rw [put_twice L p k y x (by omega)] at s5
  have q2 := run_string_bs (P := Try.prog) 128 22 9 5 Try.underlying22 Try.underlying5 Try.underlying9 s2
  have q3 := run_string_bs (P := Try.prog) 128 22 9 5 Try.underlying22 Try.underlying5 Try.underlying9 s3
  have q4 := run_string_bs (P := Try.prog) 128 22 9 5 Try.underlying22 Try.underlying5 Try.underlying9 s4
  have q5 := run_string_bs (P := Try.prog) 128 22 9 5 Try.underlying22 Try.underlying5 Try.underlying9 s5
  clear s2 s3 s4 s5 b5
  go_wp2
  go_ret
  exact ⟨rfl, bt⟩

theorem packApart_walk' (w : World) (A : Option Addr) (n c : Nat) (bs : List UInt8) (hb : Bs w A n bs) (p k x q m y : Int) :
    Calls Try.prog 6 #[.slice A n c, .agg #[.int .i64 (p : Int), .int .i64 (k : Int), .int .i64 (x : Int)], .agg #[.int .i64 (q : Int), .int .i64 (m : Int), .int .i64 (y : Int)]] w fun e w' => e = .returned (.bool true) ∧ Below w.heap.size w w' := by
  by_cases hn : n = 0 ∨ n = 128
  · rcases refused_or p k x with hr | ⟨p, k, x, rfl, rfl, rfl, hk, hp, hx⟩
    · rcases refused_or q m y with hs | ⟨q, m, y, rfl, rfl, rfl, hm, hq, hy⟩
      · exact apart_rr w A n c p k x q m y bs hn hb hr hs
      · exact apart_rf w A n c p k x q m y bs hn hb hr hm hq hy
    · rcases refused_or q m y with hs | ⟨q, m, y, rfl, rfl, rfl, hm, hq, hy⟩
      · exact apart_fr w A n c p k x q m y bs hn hb hk hp hx hs
      · by_cases h1 : p + k ≤ q
        · exact apart_d1 w A n c p k x q m y bs hn hb hk hp hx hm hq hy h1
        · by_cases h2 : q + m ≤ p
          · exact apart_d2 w A n c p k x q m y bs hn hb hk hp hx hm hq hy (by omega) h2
          · by_cases h3 : p = q
            · by_cases h4 : k = m
              · subst h3 h4
                exact apart_n3 w A n c p k x y bs hn hb hk hp hx hy
              · exact apart_n2 w A n c p k x q m y bs hn hb hk hp hx hm hq hy (by omega) (by omega) (by simp; omega) (by simp; omega)
            · exact apart_n1 w A n c p k x q m y bs hn hb hk hp hx hm hq hy (by omega) (by omega) (by simp; omega)
  · by_cases hm : n ≤ 1000
    · exact apart_text w A n c p k x q m y (by omega) (by omega) hm
    · exact apart_many w A n c p k x q m y (by omega)

theorem packApart_walk (w : World) (v0 : Value) (bs : (Ty.sl .byte).T) (h0 : Reads w (.sl .byte) bs [v0]) (cs : List Value) (xs : (Ty.arr 3 .int).T) (h1 : Reads w (.arr 3 .int) xs cs) (ds : List Value) (ys : (Ty.arr 3 .int).T) (h2 : Reads w (.arr 3 .int) ys ds) :
    Calls Try.prog 6 #[v0, .agg cs.toArray, .agg ds.toArray] w fun e w' => e = .returned (.bool true) ∧ Below w.heap.size w w' := by
  obtain ⟨A, c, rfl, _, _, hb⟩ := one_bytes h0
  obtain ⟨p, k, x, h1⟩ := arr3_open h1
  obtain ⟨q, m, y, h2⟩ := arr3_open h2
  rw [h1, h2]
  exact packApart_walk' w A _ c bs hb p k x q m y
end Go.Proofs.Ythacmidffcmneaa
