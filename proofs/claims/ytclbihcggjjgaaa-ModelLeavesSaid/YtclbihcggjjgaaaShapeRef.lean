/- The reference of layer 6 (freeboardref06): what its functions compute. -/
import Derived.Test.YtclbihcggjjgaaaShape
import Derived.Deep.RegionHeld3
import Derived.Deep.RegionWith
namespace Go.Proofs.Ytclbihcggjjgaaa
open Go.RowKit

def inB (lo n hi : Int) : Bool := decide (lo ≤ n ∧ n ≤ hi)
theorem inB_yes {lo n hi : Int} (h : lo ≤ n ∧ n ≤ hi) : inB lo n hi = true := decide_eq_true h
theorem inB_no {lo n hi : Int} (h : ¬ (lo ≤ n ∧ n ≤ hi)) : inB lo n hi = false := decide_eq_false h
theorem in_any (n lo hi : Int) (w : World) : Calls Try.prog 79 #[.int .i64 n, .int .i64 lo, .int .i64 hi] w fun e w' => e = .returned (.bool (inB lo n hi)) ∧ w = w' := by
  by_cases h1 : lo ≤ n
  · have H : Hid (inB lo n hi = decide (n ≤ hi)) := by show _ = _; simp [inB, h1]
    go_enter Try.func79, Try.ntmps79
    go_wp2
    go_ret
    exact ⟨by rw [H.out]; rfl, rfl⟩
  · have H : Hid (inB lo n hi = false) := by show _ = _; simp [inB, h1]
    have h2 : n < lo := by omega
    clear h1
    go_enter Try.func79, Try.ntmps79
    go_wp2
    go_ret
    exact ⟨by rw [H.out]; rfl, rfl⟩
theorem in_yes (n lo hi : Int) (h : lo ≤ n ∧ n ≤ hi) (w : World) : Calls Try.prog 79 #[.int .i64 n, .int .i64 lo, .int .i64 hi] w fun e w' => e = .returned (.bool true) ∧ w = w' := by
  have := in_any n lo hi w
  rwa [inB_yes h] at this
theorem in_no (n lo hi : Int) (h : ¬ (lo ≤ n ∧ n ≤ hi)) (w : World) : Calls Try.prog 79 #[.int .i64 n, .int .i64 lo, .int .i64 hi] w fun e w' => e = .returned (.bool false) ∧ w = w' := by
  have := in_any n lo hi w
  rwa [inB_no h] at this

theorem rneed_any (x : Cfg) (hm : 3 ≤ x.m ∧ x.m ≤ 16) (w : World) : Calls Try.prog 80 #[x.val] w fun e w' => e = .returned (.int .i64 (x.m + 1)) ∧ Below w.heap.size w w' := by
  obtain ⟨h1, h2⟩ := hm
  obtain ⟨id, m, c, r, l, h⟩ := x
  unfold Cfg.val
  dsimp only at *
  go_enter Try.func80, Try.ntmps80
  go_wp2
  go_ret
  exact ⟨rfl, Ext.alloc (Below.refl _ _) _⟩

theorem may_plain (id : Nat) (m c r l h : Int) (hpl : Cfg.Plain ⟨id, m, c, r, l, h⟩) (w : World) : Calls Try.prog 62 #[(Cfg.mk id m c r l h).val] w fun e w' => e = .returned (.bool (inB ((m + 1) * (h + 1)) l 255)) ∧ Below w.heap.size w w' := by
  have hB := hpl
  unfold Cfg.Plain at hB
  dsimp only at hB
  obtain ⟨b1, b2, b3, b4, b5, b6, b7, b8⟩ := hB
  have hmul : (m + 1) * (h + 1) ≤ 153 := by
    have h1 : (m + 1) * (h + 1) ≤ 17 * (h + 1) := Int.mul_le_mul_of_nonneg_right (by omega) (by omega)
    omega
  have hmul0 : 0 ≤ (m + 1) * (h + 1) := Int.mul_nonneg (by omega) (by omega)
  have HN := Lib.hid (rneed_any ⟨id, m, c, r, l, h⟩ ⟨b1, b2⟩)
  unfold Cfg.val at HN ⊢
  dsimp only at HN ⊢
  clear hpl
  go_enter Try.func62, Try.ntmps62
  go_wp2_with fail
  refine (in_yes m 3 16 ⟨b1, b2⟩ _).mono ?_
  rintro e _ ⟨rfl, rfl⟩
  go_wp2_with fail
  refine (in_yes c 1 8 ⟨b3, b4⟩ _).mono ?_
  rintro e _ ⟨rfl, rfl⟩
  go_wp2_with fail
  refine (in_yes r 1 8 ⟨b5, b6⟩ _).mono ?_
  rintro e _ ⟨rfl, rfl⟩
  go_wp2_with fail
  refine (in_yes h 2 8 ⟨b7, b8⟩ _).mono ?_
  rintro e _ ⟨rfl, rfl⟩
  have hw1 : IntKind.i64.wrap (h + 1) = h + 1 := IntWalk.i64_in _ (by omega)
  have hw2 : IntKind.i64.wrap ((m + 1) * (h + 1)) = (m + 1) * (h + 1) := IntWalk.i64_in _ (by omega)
  go_wp2_with fail
  go_region_held3 (fun w' => Below w.heap.size w w' ∧ w.heap.size < w'.heap.size ∧ w'.cell? ⟨w.heap.size, 0, none⟩ = some (.int .u32 (id : Int)) ∧ w'.cell? ⟨w.heap.size, 1, none⟩ = some (.int .i64 m) ∧ w'.cell? ⟨w.heap.size, 2, none⟩ = some (.int .i64 c) ∧ w'.cell? ⟨w.heap.size, 3, none⟩ = some (.int .i64 r) ∧ w'.cell? ⟨w.heap.size, 4, none⟩ = some (.int .i64 l) ∧ w'.cell? ⟨w.heap.size, 5, none⟩ = some (.int .i64 h))
    (first | (exact ⟨((Below.refl _ _).alloc (Nat.le_refl _) _).drew, by simp, by simp, by simp, by simp, by simp, by simp, by simp⟩) | (exact ⟨Ext.trans (And.left (by assumption)) k3, Nat.lt_of_lt_of_le (And.left (And.right (by assumption))) k3.size, by simp [*], by simp [*], by simp [*], by simp [*], by simp [*], by simp [*]⟩) | assumption)
    (first | (go_at_call 80; refine (HN.out _).mono ?_; rintro e w3 ⟨rfl, k3⟩; have hcl := fun o => k3.cell (p := ⟨w.heap.size, o, none⟩) (And.left (And.right (by assumption)))) | (go_at_call 79; refine (in_any _ _ _ _).mono ?_; rintro e w3 ⟨rfl, rfl⟩))
  go_wp2
  go_ret
  exact ⟨rfl, And.left (by assumption)⟩

def Cfg.okB (x : Cfg) : Bool := decide x.Ok
theorem Cfg.okB_ok {x : Cfg} (h : x.Ok) : x.okB = true := decide_eq_true h
theorem Cfg.okB_bad {x : Cfg} (h : ¬ x.Ok) : x.okB = false := decide_eq_false h

theorem may_unplain (id : Nat) (m c r l h : Int) (hpl : ¬ Cfg.Plain ⟨id, m, c, r, l, h⟩) (w : World) : Calls Try.prog 62 #[(Cfg.mk id m c r l h).val] w fun e w' => e = .returned (.bool false) ∧ Below w.heap.size w w' := by
  unfold Cfg.Plain at hpl
  unfold Cfg.val
  dsimp only at hpl ⊢
  by_cases g1 : 3 ≤ m ∧ m ≤ 16
  · by_cases g2 : 1 ≤ c ∧ c ≤ 8
    · by_cases g3 : 1 ≤ r ∧ r ≤ 8
      · have g4 : ¬ (2 ≤ h ∧ h ≤ 8) := fun g4 => hpl ⟨g1.1, g1.2, g2.1, g2.2, g3.1, g3.2, g4.1, g4.2⟩
        clear hpl
        have G1 := Lib.hid g1
        have G2 := Lib.hid g2
        have G3 := Lib.hid g3
        have G4 := Lib.hid g4
        clear g1 g2 g3 g4
        go_enter Try.func62, Try.ntmps62
        go_wp2_with fail
        refine (in_yes m 3 16 G1.out _).mono ?_
        rintro e _ ⟨rfl, rfl⟩
        go_wp2_with fail
        refine (in_yes c 1 8 G2.out _).mono ?_
        rintro e _ ⟨rfl, rfl⟩
        go_wp2_with fail
        refine (in_yes r 1 8 G3.out _).mono ?_
        rintro e _ ⟨rfl, rfl⟩
        go_wp2_with fail
        refine (in_no h 2 8 G4.out _).mono ?_
        rintro e _ ⟨rfl, rfl⟩
        go_wp2
        go_ret
        exact ⟨rfl, Ext.alloc (Below.refl _ _) _⟩
      · clear hpl
        have G1 := Lib.hid g1
        have G2 := Lib.hid g2
        have G3 := Lib.hid g3
        clear g1 g2 g3
        go_enter Try.func62, Try.ntmps62
        go_wp2_with fail
        refine (in_yes m 3 16 G1.out _).mono ?_
        rintro e _ ⟨rfl, rfl⟩
        go_wp2_with fail
        refine (in_yes c 1 8 G2.out _).mono ?_
        rintro e _ ⟨rfl, rfl⟩
        go_wp2_with fail
        refine (in_no r 1 8 G3.out _).mono ?_
        rintro e _ ⟨rfl, rfl⟩
        go_wp2
        go_ret
        exact ⟨rfl, Ext.alloc (Below.refl _ _) _⟩
    · clear hpl
      have G1 := Lib.hid g1
      have G2 := Lib.hid g2
      clear g1 g2
      go_enter Try.func62, Try.ntmps62
      go_wp2_with fail
      refine (in_yes m 3 16 G1.out _).mono ?_
      rintro e _ ⟨rfl, rfl⟩
      go_wp2_with fail
      refine (in_no c 1 8 G2.out _).mono ?_
      rintro e _ ⟨rfl, rfl⟩
      go_wp2
      go_ret
      exact ⟨rfl, Ext.alloc (Below.refl _ _) _⟩
  · clear hpl
    have G1 := Lib.hid g1
    clear g1
    go_enter Try.func62, Try.ntmps62
    go_wp2_with fail
    refine (in_no m 3 16 G1.out _).mono ?_
    rintro e _ ⟨rfl, rfl⟩
    go_wp2
    go_ret
    exact ⟨rfl, Ext.alloc (Below.refl _ _) _⟩

/-- freeboardref06.May: whether a config may be. -/
theorem may_any (x : Cfg) (w : World) : Calls Try.prog 62 #[x.val] w fun e w' => e = .returned (.bool x.okB) ∧ Below w.heap.size w w' := by
  by_cases hpl : x.Plain
  · refine (may_plain x.id x.m x.c x.r x.l x.h hpl w).mono ?_
    rintro e w' ⟨rfl, hb⟩
    refine ⟨?_, hb⟩
    have : inB ((x.m + 1) * (x.h + 1)) x.l 255 = x.okB := by
      unfold inB Cfg.okB
      rw [decide_eq_decide]
      exact ⟨fun h => ⟨hpl, h⟩, fun h => h.2⟩
    rw [this]
  · refine (may_unplain x.id x.m x.c x.r x.l x.h hpl w).mono ?_
    rintro e w' ⟨rfl, hb⟩
    rw [Cfg.okB_bad (fun h => hpl h.1)]
    exact ⟨rfl, hb⟩
theorem may_yes (x : Cfg) (hx : x.Ok) (w : World) : Calls Try.prog 62 #[x.val] w fun e w' => e = .returned (.bool true) ∧ Below w.heap.size w w' := by
  have := may_any x w
  rwa [Cfg.okB_ok hx] at this
theorem may_no (x : Cfg) (hx : ¬ x.Ok) (w : World) : Calls Try.prog 62 #[x.val] w fun e w' => e = .returned (.bool false) ∧ Below w.heap.size w w' := by
  have := may_any x w
  rwa [Cfg.okB_bad hx] at this

theorem rstripes_ok (x : Cfg) (hx : x.Ok) (w : World) : Calls Try.prog 81 #[x.val] w fun e w' => e = .returned (.int .i64 (x.c * x.r)) ∧ Below w.heap.size w w' := by
  obtain ⟨k1, k2⟩ := Cfg.cr hx
  obtain ⟨id, m, c, r, l, h⟩ := x
  unfold Cfg.val
  dsimp only at *
  clear hx
  go_enter Try.func81, Try.ntmps81
  go_wp2
  go_ret
  exact ⟨rfl, Ext.alloc (Below.refl _ _) _⟩
theorem rblocks_ok (x : Cfg) (hx : x.Ok) (w : World) : Calls Try.prog 63 #[x.val] w fun e w' => e = .returned (.int .i64 (x.c * x.r * (x.m - 1))) ∧ Below w.heap.size w w' := by
  have HS := Lib.hid (rstripes_ok x hx)
  obtain ⟨k1, k2⟩ := Cfg.cr hx
  obtain ⟨k3, k4⟩ := Cfg.crm hx
  obtain ⟨b1, b2, b3, b4, b5, b6, b7, b8, b9, b10⟩ := Cfg.bounds hx
  clear b9
  obtain ⟨id, m, c, r, l, h⟩ := x
  unfold Cfg.val at HS ⊢
  dsimp only at *
  clear hx
  go_enter Try.func63, Try.ntmps63
  have hw1 : IntKind.i64.wrap (m - 1) = m - 1 := IntWalk.i64_in _ (by omega)
  have hw2 : IntKind.i64.wrap (c * r * (m - 1)) = c * r * (m - 1) := IntWalk.i64_in _ (by omega)
  go_wp2_with fail
  go_region_held3 (fun w' => Below w.heap.size w w' ∧ w.heap.size < w'.heap.size ∧ w'.cell? ⟨w.heap.size, 0, none⟩ = some (.int .u32 (id : Int)) ∧ w'.cell? ⟨w.heap.size, 1, none⟩ = some (.int .i64 m) ∧ w'.cell? ⟨w.heap.size, 2, none⟩ = some (.int .i64 c) ∧ w'.cell? ⟨w.heap.size, 3, none⟩ = some (.int .i64 r) ∧ w'.cell? ⟨w.heap.size, 4, none⟩ = some (.int .i64 l) ∧ w'.cell? ⟨w.heap.size, 5, none⟩ = some (.int .i64 h))
    (first | (exact ⟨((Below.refl _ _).alloc (Nat.le_refl _) _).drew, by simp, by simp, by simp, by simp, by simp, by simp, by simp⟩) | (exact ⟨Ext.trans (And.left (by assumption)) k3, Nat.lt_of_lt_of_le (And.left (And.right (by assumption))) k3.size, by simp [*], by simp [*], by simp [*], by simp [*], by simp [*], by simp [*]⟩) | assumption)
    (first | (go_at_call 81; refine (HS.out _).mono ?_; rintro e w3 ⟨rfl, k3⟩; have hcl := fun o => k3.cell (p := ⟨w.heap.size, o, none⟩) (And.left (And.right (by assumption)))))
  go_wp2
  go_ret
  exact ⟨rfl, And.left (by assumption)⟩
end Go.Proofs.Ytclbihcggjjgaaa
