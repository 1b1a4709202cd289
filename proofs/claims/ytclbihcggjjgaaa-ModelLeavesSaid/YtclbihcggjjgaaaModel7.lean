/- Layer 30 (model): the program: lists of bytes are searched by functions. -/
import Derived.Test.YtclbihcggjjgaaaModel6
import Derived.Laws.EntriesVeiled
import Derived.BigQuiet
namespace Go.Proofs.Ytclbihcggjjgaaa
open Go Go.RowKit
set_option linter.unusedSimpArgs false
set_option linter.unusedVariables false

/-- a call tells a place, or none -/
def AtIs (P : Prop) (e : Ending) : Prop := ∃ n : Int, e = .returned (.int .i64 n) ∧ (0 ≤ n ↔ P)
theorem AtIs.at {P : Prop} {n : Nat} (h : P) : AtIs P (.returned (.int .i64 (n : Int))) := ⟨n, rfl, by simp [h]⟩
theorem AtIs.not {P : Prop} (h : ¬ P) : AtIs P (.returned (.int .i64 (-1))) := ⟨-1, rfl, by simp [h]⟩
/-- one of a list's is so -/
def SomeIs {α : Type} (p : α → Bool) (ys : List α) : Prop := ∃ i, ∃ h : i < ys.length, p ys[i] = true
def NotAt {α : Type} (p : α → Bool) (ys : List α) (i : Nat) : Prop := ∀ h : i < ys.length, p ys[i] = false
theorem SomeIs.not {α : Type} {p : α → Bool} {ys : List α} {j : Nat} (h : ∀ i, i < j → NotAt p ys i) (hj : ¬ j < ys.length) : ¬ SomeIs p ys := by
  rintro ⟨i, hi, h1⟩
  rw [h i (by omega) hi] at h1
  cases h1
def odd128 (bs : List UInt8) : Bool := (bs.length : Int) != 128
def eqBs (ds : List UInt8) (bs : List UInt8) : Bool := bs == ds

set_option maxRecDepth 100000 in
set_option maxHeartbeats 2000000 in
theorem idx_check (S : Nat → Prop) (ys : List (List UInt8)) (A : Option Addr) (c : Nat)  (w : World) (hy : RdIn w S (.sl (.sl .byte)) ys [.slice A ys.length c])  :
    Calls Try.prog 74 #[.slice A ys.length c, .func (.func 46) #[] #[]] w fun e w' => AtIs (SomeIs (odd128) ys) e ∧ Below w.heap.size w w' := by
  have HY := Lib.hid hy
  have HYM := Lib.hid (val_max hy)
  skip
  clear hy
  go_enter Try.func74, Try.ntmps74
  go_upto_region 1 with fail
  obtain ⟨W, hW⟩ : ∃ z : World, z = w := ⟨_, rfl⟩
  have b0 : Below W.heap.size W w := by rw [hW]; exact Below.refl _ _
  have HWW := Lib.hid hW
  rw [← hW] at HY
  clear hW
  go_wp2
  go_loopw [5, 8] (fun v i wr => ∃ (j : Nat), j ≤ ys.length ∧ i = .int .i64 j ∧ Below W.heap.size W wr ∧ Hid (∀ i, i < j → NotAt (odd128) ys i)) (fun _ i _ => ys.length - (intOf i).toNat)
  case atStart => exact ⟨0, by omega, rfl, b0, fun i h => absurd h (Nat.not_lt_zero _)⟩
  case round =>
    obtain ⟨j, hj, rfl, b1, HA⟩ := hrel
    clear b0
    have bw : Below w.heap.size w wr := by have := HWW.out; subst this; exact b1
    by_cases hlt : j < ys.length
    · obtain ⟨b, off, A5, c5, rfl, q5, r5⟩ := val_at (HY.out.below b1) hlt
      have HSK : Hid (NotAt (odd128) ys j ↔ (odd128) ys[j] = false) := ⟨fun h => h hlt, fun h _ => h⟩
      have HSY : Hid ((odd128) ys[j] = true → SomeIs (odd128) ys) := fun h => ⟨j, hlt, h⟩
      generalize ys[j] = bs at *
      have HWJ := next_wrap HYM.out hlt
      have HLJ := Lib.hid hlt
      have HR5 := Lib.hid r5
      clear r5
      rcases Bool.eq_false_or_eq_true ((odd128) bs) with e1 | e1
      · have HF := Lib.hid (HSY.out e1)
        unfold odd128 at e1
        go_wp2
        go_ret
        exact ⟨AtIs.at HF.out, bw⟩
      · have HA' : Hid (∀ i, i < j + 1 → NotAt (odd128) ys i) := by
          intro i hi
          by_cases h : i = j
          · subst h
            exact HSK.out.2 e1
          · exact HA.out i (by omega)
        unfold odd128 at e1
        go_wp2
        go_roundw
        case rel => exact ⟨j + 1, HLJ.out, by first | exact round_same HWJ | go_num, b1, HA'⟩
        case measure => first | exact round_less HWJ HLJ.out | (have h := HLJ.out; simp [intOf]; omega)
    · have HN := Lib.hid (SomeIs.not HA.out hlt)
      go_wp2
      go_ret
      exact ⟨AtIs.not HN.out, bw⟩
theorem has_check (S : Nat → Prop) (ys : List (List UInt8)) (A : Option Addr) (c : Nat)  (w : World) (hy : RdIn w S (.sl (.sl .byte)) ys [.slice A ys.length c])  :
    Calls Try.prog 42 #[.slice A ys.length c, .func (.func 46) #[] #[]] w fun e w' => YesNo (SomeIs (odd128) ys) e ∧ Below w.heap.size w w' := by
  have HC := Lib.hid (idx_check S ys A c w hy)
  clear hy
  go_enter Try.func42, Try.ntmps42
  go_wp2_with fail
  refine HC.out.mono ?_
  rintro e w1 ⟨⟨n, rfl, hn⟩, b1⟩
  have HN := Lib.hid hn
  clear hn
  go_wp2
  go_ret
  exact ⟨YesNo.of (by rw [decide_eq_true_iff]; exact HN.out), b1⟩
set_option maxRecDepth 100000 in
set_option maxHeartbeats 2000000 in
theorem idx_crash (S : Nat → Prop) (ys : List (List UInt8)) (A : Option Addr) (c : Nat)  (w : World) (hy : RdIn w S (.sl (.sl .byte)) ys [.slice A ys.length c])  :
    Calls Try.prog 74 #[.slice A ys.length c, .func (.func 43) #[] #[]] w fun e w' => AtIs (SomeIs (odd128) ys) e ∧ Below w.heap.size w w' := by
  have HY := Lib.hid hy
  have HYM := Lib.hid (val_max hy)
  skip
  clear hy
  go_enter Try.func74, Try.ntmps74
  go_upto_region 1 with fail
  obtain ⟨W, hW⟩ : ∃ z : World, z = w := ⟨_, rfl⟩
  have b0 : Below W.heap.size W w := by rw [hW]; exact Below.refl _ _
  have HWW := Lib.hid hW
  rw [← hW] at HY
  clear hW
  go_wp2
  go_loopw [5, 8] (fun v i wr => ∃ (j : Nat), j ≤ ys.length ∧ i = .int .i64 j ∧ Below W.heap.size W wr ∧ Hid (∀ i, i < j → NotAt (odd128) ys i)) (fun _ i _ => ys.length - (intOf i).toNat)
  case atStart => exact ⟨0, by omega, rfl, b0, fun i h => absurd h (Nat.not_lt_zero _)⟩
  case round =>
    obtain ⟨j, hj, rfl, b1, HA⟩ := hrel
    clear b0
    have bw : Below w.heap.size w wr := by have := HWW.out; subst this; exact b1
    by_cases hlt : j < ys.length
    · obtain ⟨b, off, A5, c5, rfl, q5, r5⟩ := val_at (HY.out.below b1) hlt
      have HSK : Hid (NotAt (odd128) ys j ↔ (odd128) ys[j] = false) := ⟨fun h => h hlt, fun h _ => h⟩
      have HSY : Hid ((odd128) ys[j] = true → SomeIs (odd128) ys) := fun h => ⟨j, hlt, h⟩
      generalize ys[j] = bs at *
      have HWJ := next_wrap HYM.out hlt
      have HLJ := Lib.hid hlt
      have HR5 := Lib.hid r5
      clear r5
      rcases Bool.eq_false_or_eq_true ((odd128) bs) with e1 | e1
      · have HF := Lib.hid (HSY.out e1)
        unfold odd128 at e1
        go_wp2
        go_ret
        exact ⟨AtIs.at HF.out, bw⟩
      · have HA' : Hid (∀ i, i < j + 1 → NotAt (odd128) ys i) := by
          intro i hi
          by_cases h : i = j
          · subst h
            exact HSK.out.2 e1
          · exact HA.out i (by omega)
        unfold odd128 at e1
        go_wp2
        go_roundw
        case rel => exact ⟨j + 1, HLJ.out, by first | exact round_same HWJ | go_num, b1, HA'⟩
        case measure => first | exact round_less HWJ HLJ.out | (have h := HLJ.out; simp [intOf]; omega)
    · have HN := Lib.hid (SomeIs.not HA.out hlt)
      go_wp2
      go_ret
      exact ⟨AtIs.not HN.out, bw⟩
theorem has_crash (S : Nat → Prop) (ys : List (List UInt8)) (A : Option Addr) (c : Nat)  (w : World) (hy : RdIn w S (.sl (.sl .byte)) ys [.slice A ys.length c])  :
    Calls Try.prog 42 #[.slice A ys.length c, .func (.func 43) #[] #[]] w fun e w' => YesNo (SomeIs (odd128) ys) e ∧ Below w.heap.size w w' := by
  have HC := Lib.hid (idx_crash S ys A c w hy)
  clear hy
  go_enter Try.func42, Try.ntmps42
  go_wp2_with fail
  refine HC.out.mono ?_
  rintro e w1 ⟨⟨n, rfl, hn⟩, b1⟩
  have HN := Lib.hid hn
  clear hn
  go_wp2
  go_ret
  exact ⟨YesNo.of (by rw [decide_eq_true_iff]; exact HN.out), b1⟩
theorem eqb_any (A B : Option Addr) (n m q k : Nat) (xs bs : List UInt8) (w : World) (ha : Bs w A n xs) (hb : Bs w B m bs) :
    Calls Try.prog 51 #[.slice A n q, .slice B m k] w fun e w' => e = .returned (.bool (xs == bs)) ∧ w = w' := by
  have s1 := run_string_bs (P := Try.prog) q 29 9 5 Try.underlying29 Try.underlying5 Try.underlying9 ha
  have s2 := run_string_bs (P := Try.prog) k 29 9 5 Try.underlying29 Try.underlying5 Try.underlying9 hb
  go_enter Try.func51, Try.ntmps51
  go_wp2
  go_ret
  exact ⟨rfl, rfl⟩
theorem left1_any (A : Option Addr) (n c : Nat) (bs : List UInt8) (g : Nat) (D : Option Addr) (dn dc : Nat) (ds : List UInt8) (w : World) (ha : Bs w A n bs) (hb : Bs w D dn ds) (hg : BoxOf w g #[.slice D dn dc] 29) :
    Calls Try.prog 67 #[.slice A n c, .pointer (some ⟨g, 0, none⟩)] w fun e w' => e = .returned (.bool (eqBs ds bs)) ∧ w = w' := by
  have HQ := Lib.hid (eqb_any A D n dn c dc bs ds w ha hb)
  have x0 := hg.cell
  clear ha hb
  go_enter Try.func67, Try.ntmps67
  go_wp2_with fail
  refine HQ.out.mono ?_
  rintro e w1 ⟨rfl, rfl⟩
  go_wp2
  go_ret
  exact ⟨rfl, rfl⟩
set_option maxRecDepth 100000 in
set_option maxHeartbeats 2000000 in
theorem idx_left (S : Nat → Prop) (ys : List (List UInt8)) (A : Option Addr) (c : Nat) (g : Nat) (D : Option Addr) (dn dc : Nat) (ds : List UInt8) (w : World) (hy : RdIn w S (.sl (.sl .byte)) ys [.slice A ys.length c]) (hd : Bs w D dn ds) (hgb : BoxOf w g #[.slice D dn dc] 29) :
    Calls Try.prog 74 #[.slice A ys.length c, .func (.func 67) #[] #[.pointer (some ⟨g, 0, none⟩)]] w fun e w' => AtIs (SomeIs (eqBs ds) ys) e ∧ Below w.heap.size w w' := by
  have HY := Lib.hid hy
  have HYM := Lib.hid (val_max hy)
  have HLE : Hid (∀ w', Below w.heap.size w w' → ∀ (A : Option Addr) (n c : Nat) (bs : List UInt8), Bs w' A n bs → Calls Try.prog 67 #[.slice A n c, .pointer (some ⟨g, 0, none⟩)] w' fun e w'' => e = .returned (.bool (eqBs ds bs)) ∧ w' = w'') := fun w' bb A n c bs hb => left1_any A n c bs g D dn dc ds w' hb (hd.below bb) (hgb.next bb)
  clear hy
  go_enter Try.func74, Try.ntmps74
  go_upto_region 1 with fail
  obtain ⟨W, hW⟩ : ∃ z : World, z = w := ⟨_, rfl⟩
  have b0 : Below W.heap.size W w := by rw [hW]; exact Below.refl _ _
  have HWW := Lib.hid hW
  rw [← hW] at HY
  clear hW
  go_wp2
  go_loopw [5, 8] (fun v i wr => ∃ (j : Nat), j ≤ ys.length ∧ i = .int .i64 j ∧ Below W.heap.size W wr ∧ Hid (∀ i, i < j → NotAt (eqBs ds) ys i)) (fun _ i _ => ys.length - (intOf i).toNat)
  case atStart => exact ⟨0, by omega, rfl, b0, fun i h => absurd h (Nat.not_lt_zero _)⟩
  case round =>
    obtain ⟨j, hj, rfl, b1, HA⟩ := hrel
    clear b0
    have bw : Below w.heap.size w wr := by have := HWW.out; subst this; exact b1
    by_cases hlt : j < ys.length
    · obtain ⟨b, off, A5, c5, rfl, q5, r5⟩ := val_at (HY.out.below b1) hlt
      have HSK : Hid (NotAt (eqBs ds) ys j ↔ (eqBs ds) ys[j] = false) := ⟨fun h => h hlt, fun h _ => h⟩
      have HSY : Hid ((eqBs ds) ys[j] = true → SomeIs (eqBs ds) ys) := fun h => ⟨j, hlt, h⟩
      generalize ys[j] = bs at *
      have HWJ := next_wrap HYM.out hlt
      have HLJ := Lib.hid hlt
      have HR5 := Lib.hid r5
      clear r5
      rcases Bool.eq_false_or_eq_true ((eqBs ds) bs) with e1 | e1
      · have HF := Lib.hid (HSY.out e1)
        skip
        go_wp2_with (go_at_call 67; refine (HLE.out _ bw _ _ _ _ HR5.out.bytes_bs).mono ?_; rintro e w3 ⟨rfl, rfl⟩)
        go_ret
        exact ⟨AtIs.at HF.out, bw⟩
      · have HA' : Hid (∀ i, i < j + 1 → NotAt (eqBs ds) ys i) := by
          intro i hi
          by_cases h : i = j
          · subst h
            exact HSK.out.2 e1
          · exact HA.out i (by omega)
        skip
        go_wp2_with (go_at_call 67; refine (HLE.out _ bw _ _ _ _ HR5.out.bytes_bs).mono ?_; rintro e w3 ⟨rfl, rfl⟩)
        go_roundw
        case rel => exact ⟨j + 1, HLJ.out, by first | exact round_same HWJ | go_num, b1, HA'⟩
        case measure => first | exact round_less HWJ HLJ.out | (have h := HLJ.out; simp [intOf]; omega)
    · have HN := Lib.hid (SomeIs.not HA.out hlt)
      go_wp2
      go_ret
      exact ⟨AtIs.not HN.out, bw⟩
theorem has_left (S : Nat → Prop) (ys : List (List UInt8)) (A : Option Addr) (c : Nat) (g : Nat) (D : Option Addr) (dn dc : Nat) (ds : List UInt8) (w : World) (hy : RdIn w S (.sl (.sl .byte)) ys [.slice A ys.length c]) (hd : Bs w D dn ds) (hgb : BoxOf w g #[.slice D dn dc] 29) :
    Calls Try.prog 42 #[.slice A ys.length c, .func (.func 67) #[] #[.pointer (some ⟨g, 0, none⟩)]] w fun e w' => YesNo (SomeIs (eqBs ds) ys) e ∧ Below w.heap.size w w' := by
  have HC := Lib.hid (idx_left S ys A c g D dn dc ds w hy hd hgb)
  clear hy hd hgb
  go_enter Try.func42, Try.ntmps42
  go_wp2_with fail
  refine HC.out.mono ?_
  rintro e w1 ⟨⟨n, rfl, hn⟩, b1⟩
  have HN := Lib.hid hn
  clear hn
  go_wp2
  go_ret
  exact ⟨YesNo.of (by rw [decide_eq_true_iff]; exact HN.out), b1⟩
end Go.Proofs.Ytclbihcggjjgaaa
