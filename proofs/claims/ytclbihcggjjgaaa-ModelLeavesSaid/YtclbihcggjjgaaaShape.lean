/- Layer 6 (shape): what its functions compute. -/
import Derived.Test.YtclbihcggjjgaaaRows
import Derived.Test.YtclbihcggjjgaaaLib
import Derived.Test.YtclbihcggjjgaaaData
import Derived.BigQuiet
import Derived.Deep.QuietTactic
namespace Go.Proofs.Ytclbihcggjjgaaa
open Go.RowKit

/-- A config, as plain data. -/
structure Cfg where
  id : Nat
  m : Int
  c : Int
  r : Int
  l : Int
  h : Int
def Cfg.val (x : Cfg) : Value := .agg #[.int .u32 (x.id : Int), .int .i64 x.m, .int .i64 x.c, .int .i64 x.r, .int .i64 x.l, .int .i64 x.h]
/-- the first four bounds -/
def Cfg.Plain (x : Cfg) : Prop := 3 ≤ x.m ∧ x.m ≤ 16 ∧ 1 ≤ x.c ∧ x.c ≤ 8 ∧ 1 ≤ x.r ∧ x.r ≤ 8 ∧ 2 ≤ x.h ∧ x.h ≤ 8
/-- a config that may be -/
def Cfg.Ok (x : Cfg) : Prop := x.Plain ∧ (x.m + 1) * (x.h + 1) ≤ x.l ∧ x.l ≤ 255
instance (x : Cfg) : Decidable x.Plain := by unfold Cfg.Plain; infer_instance
instance (x : Cfg) : Decidable x.Ok := by unfold Cfg.Ok; infer_instance
def Cfg.code (x : Cfg) : Int := if x.Ok then 0 else 8
theorem Cfg.code_ok {x : Cfg} (h : x.Ok) : x.code = 0 := if_pos h
theorem Cfg.code_bad {x : Cfg} (h : ¬ x.Ok) : x.code = 8 := if_neg h

/-- rows of three numbers -/
def rowOk (r : Int × Int × Int) : Bool := decide (r.2.1 ≤ r.1) && decide (r.1 ≤ r.2.2)
def rowS (r : Int × Int × Int) : List Value := [.int .i64 r.1, .int .i64 r.2.1, .int .i64 r.2.2]

theorem bounds_any (g c : Nat) (rows : List (Int × Int × Int)) (w : World) (hn : rows.length ≤ 100)
    (hc : ∀ i (hi : i < rows.length), w.cell? ⟨g, i * 3, none⟩ = some (.int .i64 rows[i].1) ∧ w.cell? ⟨g, i * 3 + 1, none⟩ = some (.int .i64 rows[i].2.1) ∧ w.cell? ⟨g, i * 3 + 2, none⟩ = some (.int .i64 rows[i].2.2)) :
    Calls Try.prog 90 #[.slice (some ⟨g, 0, none⟩) rows.length c] w fun e w' => e = .returned (.bool (rows.all rowOk)) ∧ Below w.heap.size w w' := by
  have HC := Lib.hid hc
  clear hc
  go_enter Try.func90, Try.ntmps90
  go_wp2
  go_loopw [7] (fun i wr => ∃ k : Nat, k ≤ rows.length ∧ i = .int .i64 k ∧ (rows.take k).all rowOk = true ∧ Below w.heap.size w wr) (fun i _ => rows.length - (intOf i).toNat)
  case atStart => exact ⟨0, by omega, rfl, rfl, Below.refl _ _⟩
  case round =>
    obtain ⟨k, hk, rfl, hall, hb⟩ := hrel
    by_cases hlt : k < rows.length
    · have hall' : (rows.take (k + 1)).all rowOk = rowOk rows[k] := by
        rw [List.take_succ_eq_append_getElem hlt, List.all_append, hall]
        simp
      have hno : rowOk rows[k] = false → rows.all rowOk = false := by
        intro h
        rw [List.all_eq_false]
        exact ⟨rows[k], List.getElem_mem hlt, by simp [h]⟩
      have hrk : rowOk rows[k] = (decide (rows[k].2.1 ≤ rows[k].1) && decide (rows[k].1 ≤ rows[k].2.2)) := rfl
      rw [hrk] at hall' hno
      clear hrk
      have HA := Lib.hid hall'
      have HN := Lib.hid hno
      clear hall' hno hall
      obtain ⟨p0, p1, p2⟩ := HC.out k hlt
      have q0 := (hb.cell (p := _) (block_lt_of_cell p0)).trans p0
      have q1 := (hb.cell (p := _) (block_lt_of_cell p1)).trans p1
      have q2 := (hb.cell (p := _) (block_lt_of_cell p2)).trans p2
      clear p0 p1 p2
      generalize rows[k].1 = a at q0 HA HN
      generalize rows[k].2.1 = lo at q1 HA HN
      generalize rows[k].2.2 = hi at q2 HA HN
      go_wp2
      · go_ret
        refine ⟨?_, Ext.alloc hb _⟩
        rw [HN.out (by simp; omega)]
        rfl
      · go_roundw
        case rel => exact ⟨k + 1, by omega, by go_num, by rw [HA.out]; simp; omega, Ext.alloc hb _⟩
        case measure => simp [intOf]; omega
      · go_ret
        refine ⟨?_, Ext.alloc hb _⟩
        rw [HN.out (by simp; omega)]
        rfl
    · have hk' : k = rows.length := by omega
      have hfin : rows.all rowOk = true := by rw [hk', List.take_length] at hall; exact hall
      have HF := Lib.hid hfin
      clear hfin hall hk'
      go_wp2
      go_ret
      exact ⟨by rw [HF.out]; rfl, hb⟩

/-- one row in a new block -/
theorem row1_new (w : World) (g : Nat) (hg : g = w.heap.size) (a lo hi : Int) (t : TypeId) : ∀ i (h : i < [(a, lo, hi)].length), (w.alloc (.cells #[.int .i64 a, .int .i64 lo, .int .i64 hi] t)).cell? ⟨g, i * 3, none⟩ = some (.int .i64 [(a, lo, hi)][i].1) ∧
    (w.alloc (.cells #[.int .i64 a, .int .i64 lo, .int .i64 hi] t)).cell? ⟨g, i * 3 + 1, none⟩ = some (.int .i64 [(a, lo, hi)][i].2.1) ∧
    (w.alloc (.cells #[.int .i64 a, .int .i64 lo, .int .i64 hi] t)).cell? ⟨g, i * 3 + 2, none⟩ = some (.int .i64 [(a, lo, hi)][i].2.2) := by
  intro i h
  subst hg
  have : i = 0 := by simpa using h
  subst this
  refine ⟨?_, ?_, ?_⟩ <;> rw [World.cell?_alloc_mark] <;> rfl
theorem row4_new (w : World) (g : Nat) (hg : g = w.heap.size) (a b c d : Int) (t : TypeId) : ∀ i (h : i < [(a, (3 : Int), (16 : Int)), (b, 1, 8), (c, 1, 8), (d, 2, 8)].length),
    (w.alloc (.cells #[.int .i64 a, .int .i64 3, .int .i64 16, .int .i64 b, .int .i64 1, .int .i64 8, .int .i64 c, .int .i64 1, .int .i64 8, .int .i64 d, .int .i64 2, .int .i64 8] t)).cell? ⟨g, i * 3, none⟩ = some (.int .i64 [(a, (3 : Int), (16 : Int)), (b, 1, 8), (c, 1, 8), (d, 2, 8)][i].1) ∧
    (w.alloc (.cells #[.int .i64 a, .int .i64 3, .int .i64 16, .int .i64 b, .int .i64 1, .int .i64 8, .int .i64 c, .int .i64 1, .int .i64 8, .int .i64 d, .int .i64 2, .int .i64 8] t)).cell? ⟨g, i * 3 + 1, none⟩ = some (.int .i64 [(a, (3 : Int), (16 : Int)), (b, 1, 8), (c, 1, 8), (d, 2, 8)][i].2.1) ∧
    (w.alloc (.cells #[.int .i64 a, .int .i64 3, .int .i64 16, .int .i64 b, .int .i64 1, .int .i64 8, .int .i64 c, .int .i64 1, .int .i64 8, .int .i64 d, .int .i64 2, .int .i64 8] t)).cell? ⟨g, i * 3 + 2, none⟩ = some (.int .i64 [(a, (3 : Int), (16 : Int)), (b, 1, 8), (c, 1, 8), (d, 2, 8)][i].2.2) := by
  intro i h
  subst hg
  have : i < 4 := by simpa using h
  rcases i with _ | _ | _ | _ | i
  · refine ⟨?_, ?_, ?_⟩ <;> rw [World.cell?_alloc_mark] <;> rfl
  · refine ⟨?_, ?_, ?_⟩ <;> rw [World.cell?_alloc_mark] <;> rfl
  · refine ⟨?_, ?_, ?_⟩ <;> rw [World.cell?_alloc_mark] <;> rfl
  · refine ⟨?_, ?_, ?_⟩ <;> rw [World.cell?_alloc_mark] <;> rfl
  · omega

theorem check_any (x : Cfg) (w : World) : Calls Try.prog 86 #[x.val] w fun e w' => e = .returned (.int .i64 x.code) ∧ Below w.heap.size w w' := by
  have hall : [(x.m, (3 : Int), (16 : Int)), (x.c, 1, 8), (x.r, 1, 8), (x.h, 2, 8)].all rowOk = decide x.Plain := by
    rw [Bool.eq_iff_iff]
    simp only [rowOk, List.all_cons, List.all_nil, Bool.and_true, Bool.and_eq_true, decide_eq_true_eq, and_assoc]
    exact Iff.rfl
  obtain ⟨id, m, c, r, l, h⟩ := x
  unfold Cfg.val
  dsimp only at hall ⊢
  by_cases hpl : Cfg.Plain ⟨id, m, c, r, l, h⟩
  · rw [decide_eq_true hpl] at hall
    have hB := hpl
    unfold Cfg.Plain at hB
    dsimp only at hB
    obtain ⟨b1, b2, b3, b4, b5, b6, b7, b8⟩ := hB
    have hmul : (m + 1) * (h + 1) ≤ 153 := by
      have h1 : (m + 1) * (h + 1) ≤ 17 * (h + 1) := Int.mul_le_mul_of_nonneg_right (by omega) (by omega)
      omega
    have hmul0 : 0 ≤ (m + 1) * (h + 1) := Int.mul_nonneg (by omega) (by omega)
    have hone : [(l, (m + 1) * (h + 1), (255 : Int))].all rowOk = rowOk (l, (m + 1) * (h + 1), 255) := by simp
    have hcode : Hid ((Cfg.mk id m c r l h).code = if rowOk (l, (m + 1) * (h + 1), 255) then 0 else 8) := by
      show _ = _
      unfold Cfg.code Cfg.Ok
      simp only [hpl, true_and, rowOk, Bool.and_eq_true, decide_eq_true_eq]
    have HA := Lib.hid hall
    clear hall hpl
    generalize hz : rowOk (l, (m + 1) * (h + 1), 255) = z at hone hcode
    have H1 := Lib.hid hone
    clear hz hone
    go_enter Try.func86, Try.ntmps86
    go_wp2_with fail
    refine (bounds_any (w.heap.size + 1) 4 [(m, 3, 16), (c, 1, 8), (r, 1, 8), (h, 2, 8)] _ (by simp) (row4_new _ (w.heap.size + 1) (by simp) m c r h _)).mono ?_
    rw [HA.out]
    rintro e w1 ⟨rfl, k1⟩
    have s1 := k1.size
    simp at s1
    have k2 : Below w.heap.size w w1 := Ext.trans (Ext.alloc (Ext.alloc (Below.refl _ _) _) _) k1
    have c1 : w1.cell? ⟨w.heap.size, 1, none⟩ = some (.int .i64 m) := (k1.cell (p := ⟨w.heap.size, 1, none⟩) (by simp; omega)).trans (by simp)
    have c4 : w1.cell? ⟨w.heap.size, 4, none⟩ = some (.int .i64 l) := (k1.cell (p := ⟨w.heap.size, 4, none⟩) (by simp; omega)).trans (by simp)
    have c5 : w1.cell? ⟨w.heap.size, 5, none⟩ = some (.int .i64 h) := (k1.cell (p := ⟨w.heap.size, 5, none⟩) (by simp; omega)).trans (by simp)
    go_wp2_with fail
    refine (bounds_any w1.heap.size 1 [(l, (m + 1) * (h + 1), 255)] _ (by simp) (row1_new _ w1.heap.size rfl l _ _ _)).mono ?_
    rw [H1.out]
    rintro e w2 ⟨rfl, k3⟩
    cases z
    · go_wp2
      go_ret
      exact ⟨by rw [hcode.out]; rfl, Ext.trans (Ext.alloc k2 _) k3⟩
    · go_wp2
      go_ret
      exact ⟨by rw [hcode.out]; rfl, Ext.trans (Ext.alloc k2 _) k3⟩
  · rw [decide_eq_false hpl] at hall
    have hcode : Hid ((Cfg.mk id m c r l h).code = 8) := Cfg.code_bad fun h => hpl h.1
    have HA := Lib.hid hall
    clear hall hpl
    go_enter Try.func86, Try.ntmps86
    go_wp2_with fail
    refine (bounds_any (w.heap.size + 1) 4 [(m, 3, 16), (c, 1, 8), (r, 1, 8), (h, 2, 8)] _ (by simp) (row4_new _ (w.heap.size + 1) (by simp) m c r h _)).mono ?_
    rw [HA.out]
    rintro e w1 ⟨rfl, k1⟩
    go_wp2
    go_ret
    exact ⟨by rw [hcode.out]; rfl, Ext.trans (Ext.alloc (Ext.alloc (Below.refl _ _) _) _) k1⟩

theorem told_ok (x : Cfg) (hx : x.Ok) (n : Int) (w : World) : Calls Try.prog 75 #[x.val, .int .i64 n] w fun e w' => e = .returned (.tuple #[.int .i64 n, .int .i64 0]) ∧ Below w.heap.size w w' := by
  have hck := check_any x
  rw [Cfg.code_ok hx] at hck
  obtain ⟨id, m, c, r, l, h⟩ := x
  unfold Cfg.val at hck ⊢
  clear hx
  dsimp only at hck ⊢
  have HC := Lib.hid hck
  clear hck
  go_enter Try.func75, Try.ntmps75
  go_wp2_with fail
  refine (HC.out _).mono ?_
  rintro e w1 ⟨rfl, k1⟩
  go_wp2
  go_ret2
  exact ⟨rfl, Ext.trans (Ext.alloc (Below.refl _ _) _) k1⟩
theorem told_bad (x : Cfg) (hx : ¬ x.Ok) (n : Int) (w : World) : Calls Try.prog 75 #[x.val, .int .i64 n] w fun e w' => e = .returned (.tuple #[.int .i64 0, .int .i64 8]) ∧ Below w.heap.size w w' := by
  have hck := check_any x
  rw [Cfg.code_bad hx] at hck
  obtain ⟨id, m, c, r, l, h⟩ := x
  unfold Cfg.val at hck ⊢
  clear hx
  dsimp only at hck ⊢
  have HC := Lib.hid hck
  clear hck
  go_enter Try.func75, Try.ntmps75
  go_wp2_with fail
  refine (HC.out _).mono ?_
  rintro e w1 ⟨rfl, k1⟩
  go_wp2
  go_ret2
  exact ⟨rfl, Ext.trans (Ext.alloc (Below.refl _ _) _) k1⟩

theorem Cfg.bounds {x : Cfg} (h : x.Ok) : 3 ≤ x.m ∧ x.m ≤ 16 ∧ 1 ≤ x.c ∧ x.c ≤ 8 ∧ 1 ≤ x.r ∧ x.r ≤ 8 ∧ 2 ≤ x.h ∧ x.h ≤ 8 ∧ (x.m + 1) * (x.h + 1) ≤ x.l ∧ x.l ≤ 255 := by
  obtain ⟨⟨h1, h2, h3, h4, h5, h6, h7, h8⟩, h9, h10⟩ := h
  exact ⟨h1, h2, h3, h4, h5, h6, h7, h8, h9, h10⟩
theorem Cfg.cr {x : Cfg} (h : x.Ok) : 1 ≤ x.c * x.r ∧ x.c * x.r ≤ 64 := by
  obtain ⟨h1, h2, h3, h4, h5, h6, h7, h8, h9, h10⟩ := Cfg.bounds h
  constructor
  · have : 0 < x.c * x.r := Int.mul_pos (by omega) (by omega)
    omega
  · have : x.c * x.r ≤ 8 * x.r := Int.mul_le_mul_of_nonneg_right (by omega) (by omega)
    omega
theorem Cfg.crm {x : Cfg} (h : x.Ok) : 2 ≤ x.c * x.r * (x.m - 1) ∧ x.c * x.r * (x.m - 1) ≤ 960 := by
  obtain ⟨h1, h2, h3, h4, h5, h6, h7, h8, h9, h10⟩ := Cfg.bounds h
  obtain ⟨k1, k2⟩ := Cfg.cr h
  constructor
  · have : 1 * (x.m - 1) ≤ x.c * x.r * (x.m - 1) := Int.mul_le_mul_of_nonneg_right k1 (by omega)
    omega
  · have : x.c * x.r * (x.m - 1) ≤ 64 * (x.m - 1) := Int.mul_le_mul_of_nonneg_right k2 (by omega)
    omega

theorem blocks_ok (x : Cfg) (hx : x.Ok) (w : World) : Calls Try.prog 45 #[x.val] w fun e w' => e = .returned (.tuple #[.int .i64 (x.c * x.r * (x.m - 1)), .int .i64 0]) ∧ Below w.heap.size w w' := by
  have HT := Lib.hid (told_ok x hx)
  obtain ⟨b1, b2, b3, b4, b5, b6, b7, b8, _, b10⟩ := Cfg.bounds hx
  obtain ⟨k1, k2⟩ := Cfg.cr hx
  obtain ⟨k3, k4⟩ := Cfg.crm hx
  obtain ⟨id, m, c, r, l, h⟩ := x
  unfold Cfg.val at HT ⊢
  dsimp only at *
  clear hx
  go_enter Try.func45, Try.ntmps45
  go_wp2_with fail
  refine (HT.out _ _).mono ?_
  rintro e w1 ⟨rfl, k1⟩
  go_wp2
  go_ret2
  exact ⟨rfl, Ext.trans (Ext.alloc (Below.refl _ _) _) k1⟩
theorem blocks_bad (x : Cfg) (hx : ¬ x.Ok) (w : World) : Calls Try.prog 45 #[x.val] w fun e w' => e = .returned (.tuple #[.int .i64 0, .int .i64 8]) ∧ Below w.heap.size w w' := by
  have HT := Lib.hid (told_bad x hx)
  obtain ⟨id, m, c, r, l, h⟩ := x
  unfold Cfg.val at HT ⊢
  dsimp only at *
  clear hx
  go_enter Try.func45, Try.ntmps45
  go_wp2_with fail
  refine (HT.out _ _).mono ?_
  rintro e w1 ⟨rfl, k1⟩
  go_wp2
  go_ret2
  exact ⟨rfl, Ext.trans (Ext.alloc (Below.refl _ _) _) k1⟩

end Go.Proofs.Ytclbihcggjjgaaa
