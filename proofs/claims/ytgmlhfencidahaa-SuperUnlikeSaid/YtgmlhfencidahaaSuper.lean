/- Layer 10 (super): what may be, and what is written. -/
import Derived.Test.YtgmlhfencidahaaSeal
import Derived.Test.YtgmlhfencidahaaBox
import Derived.Test.YtgmlhfencidahaaPoly
namespace Go.Proofs.Ytgmlhfencidahaa
open Go.RowKit
set_option linter.unusedSimpArgs false
set_option linter.unusedVariables false

def okN (n : Nat) : Bool := decide (1 ≤ n ∧ n ≤ 2147483648)
theorem number_any (n : Nat) (hn : n < 4294967296) (w : World) : Calls Try.prog 21 #[.int .u32 n] w fun e w' => e = .returned (.bool (okN n)) ∧ w = w' := by
  by_cases h0 : n = 0
  · subst h0
    go_enter Try.func21, Try.ntmps21
    go_wp2
    go_ret
    exact ⟨rfl, rfl⟩
  · have e : okN n = decide ((n : Int) - 1 < 2147483648) := by unfold okN; exact decide_eq_decide.2 (by omega)
    rw [e]
    clear e
    have h1 : 1 ≤ (n : Int) := by omega
    have h2 : (n : Int) ≤ 4294967295 := by omega
    clear h0 hn
    go_enter Try.func21, Try.ntmps21
    go_wp2
    go_ret
    exact ⟨rfl, rfl⟩

def SupOk (age sq : Nat) (t : Int) : Prop := okN age = true ∧ okN sq = true ∧ 0 ≤ t ∧ t < 255
instance (age sq : Nat) (t : Int) : Decidable (SupOk age sq t) := by unfold SupOk; infer_instance

set_option maxRecDepth 100000 in
theorem pcheck_bad (id age sq : Nat) (t : Int) (ha : age < 4294967296) (hs : sq < 4294967296) (h : ¬ SupOk age sq t) (w : World) :
    Calls Try.prog 11 #[.agg #[.int .u32 (id : Int), .int .u32 (age : Int), .int .u32 (sq : Int), .int .i64 t]] w fun e w' => e = .returned (.int .i64 8) ∧ Below w.heap.size w w' := by
  have HA := Lib.hid (number_any age ha)
  have HS := Lib.hid (number_any sq hs)
  have hall : okN age = false ∨ (okN age = true ∧ okN sq = false) ∨ ((okN age = true ∧ okN sq = true) ∧ t < 0) ∨ ((okN age = true ∧ okN sq = true) ∧ 0 ≤ t ∧ 255 ≤ t) := by
    unfold SupOk at h
    cases h1 : okN age <;> cases h2 : okN sq <;> simp_all <;> omega
  clear h ha hs
  generalize okN age = b1 at *
  generalize okN sq = b2 at *
  rcases hall with rfl | ⟨rfl, rfl⟩ | ⟨⟨rfl, rfl⟩, h⟩ | ⟨⟨rfl, rfl⟩, h1, h⟩
  · go_enter Try.func11, Try.ntmps11
    go_wp2_with fail
    refine (HA.out _).mono ?_
    rintro e w1 ⟨rfl, rfl⟩
    go_wp2
    go_ret
    exact ⟨rfl, Ext.alloc (Below.refl _ _) _⟩
  all_goals
    go_enter Try.func11, Try.ntmps11
    go_wp2_with fail
    refine (HA.out _).mono ?_
    rintro e w1 ⟨rfl, rfl⟩
    go_wp2_with fail
    refine (HS.out _).mono ?_
    rintro e w1 ⟨rfl, rfl⟩
    go_wp2
    go_ret
    exact ⟨rfl, Ext.alloc (Below.refl _ _) _⟩

set_option maxRecDepth 100000 in
theorem pcheck_ok (id age sq : Nat) (t : Int) (ha : age < 4294967296) (hs : sq < 4294967296) (h : SupOk age sq t) (w : World) :
    Calls Try.prog 11 #[.agg #[.int .u32 (id : Int), .int .u32 (age : Int), .int .u32 (sq : Int), .int .i64 t]] w fun e w' => e = .returned (.int .i64 0) ∧ Below w.heap.size w w' := by
  have HA := Lib.hid (number_any age ha)
  have HS := Lib.hid (number_any sq hs)
  obtain ⟨h1, h2, h3, h4⟩ := h
  rw [h1] at HA
  rw [h2] at HS
  clear ha hs h1 h2
  go_enter Try.func11, Try.ntmps11
  go_wp2_with fail
  refine (HA.out _).mono ?_
  rintro e w1 ⟨rfl, rfl⟩
  go_wp2_with fail
  refine (HS.out _).mono ?_
  rintro e w1 ⟨rfl, rfl⟩
  go_wp2
  go_ret
  exact ⟨rfl, Ext.alloc (Below.refl _ _) _⟩

set_option maxRecDepth 100000 in
theorem cput_ok (A : Option Addr) (n c : Nat) (bs : List UInt8) (hn : n = 0 ∨ n = 128) (p k x : Nat) (hk : 1 ≤ k ∧ k ≤ 4) (hp : p + k ≤ 128) (hx : x < 256 ^ k) (w : World) (hb : Bs w A n bs) :
    Calls Try.prog 19 #[.agg #[.slice A n c, .int .i64 p, .int .i64 0], .int .i64 x, .int .i64 k] w fun e w' => ∃ g, e = .returned (.agg #[.slice (some ⟨g, 0, none⟩) 128 128, .int .i64 ((p + k : Nat) : Int), .int .i64 0]) ∧ w.heap.size ≤ g ∧ Box w' g (putL (wholeL bs) p k x) ∧ Below w.heap.size w w' := by
  have hpk : ((p + k : Nat) : Int) = (p : Int) + (k : Int) := by omega
  rw [hpk]
  have HN := Lib.hid hn
  have HX := Lib.hid hx
  have HB := Lib.hid hb
  clear hn hx hb hpk
  obtain ⟨hk1, hk2⟩ := hk
  go_enter Try.func19, Try.ntmps19
  go_wp2_with fail
  have A0 := BoxOf.alloc (BoxOf.new w #[.slice A n c, .int .i64 p, .int .i64 0] 50) (.cells #[.slice none 0 0, .int .i64 0, .int .i64 0] 50)
  have B0 := BoxOf.new' (w.alloc (.cells #[.slice A n c, .int .i64 p, .int .i64 0] 50)) (w.heap.size + 1) #[.slice none 0 0, .int .i64 0, .int .i64 0] 50 (by simp)
  have t0 := Ext.alloc (Ext.alloc (Below.refl w.heap.size w) (.cells #[.slice A n c, .int .i64 p, .int .i64 0] 50)) (.cells #[.slice none 0 0, .int .i64 0, .int .i64 0] 50)
  refine (put_ok A n c bs HN.out p k x ⟨hk1, hk2⟩ hp HX.out _ ((HB.out.alloc _).alloc _)).mono ?_
  rintro e w1 ⟨g, rfl, hg, HBx, b1⟩
  have A1 := A0.next b1
  have B1 := Lib.hid (B0.next b1)
  have t1 := Ext.trans t0 b1
  have x1 := A1.cell
  have hg1 : w.heap.size + 2 ≤ g := by simpa using hg
  have HBX := Lib.hid HBx
  have HG := Lib.hid hg1
  clear A0 B0 t0 b1 HBx hg hg1
  go_wp2_with (refine wpList_store_rowTo rfl 50 (.tmp 6) (.tmp 29) rfl rfl (w.heap.size + 1) #[.slice (some ⟨g, 0, none⟩) 128 128, .int .i64 ((p : Int) + (k : Int)), .int .i64 0] rfl rfl 50 #[.slice none 0 0, .int .i64 0, .int .i64 0] B1.out (by kernel_rfl) rfl (by kernel_rfl) ?_)
  exact bodyPost_ret (v := .agg #[.slice (some ⟨g, 0, none⟩) 128 128, .int .i64 ((p : Int) + (k : Int)), .int .i64 0]) (results_cell_row rfl _ _ (w.heap.size + 1) 50 #[.slice (some ⟨g, 0, none⟩) 128 128, .int .i64 ((p : Int) + (k : Int)), .int .i64 0] (0, 0) _ rfl (B1.out.set _) Try.underlying50 rfl (by kernel_rfl)) rfl ⟨g, rfl, by have := HG.out; omega, ⟨by
    have h1 : BoxOf w1 g _ _ := HBX.out.1
    exact h1.other (by have := HG.out; omega) _, HBX.out.2⟩, Ext.setRow t1 (by omega) _⟩
end Go.Proofs.Ytgmlhfencidahaa
