/- Layer 2 (pack): fits, Put, Take. -/
import Derived.Test.YtggdfecgkhnkkaaPack
namespace Go.Proofs.Ytggdfecgkhnkkaa
open Go.RowKit

/-- a block with a number's k lowest bytes at p -/
def putL (l : List UInt8) (p : Nat) : Nat → Nat → List UInt8
  | 0, _ => l
  | k + 1, n => (putL l p k n).set (p + k) (UInt8.ofNat (n / 256 ^ k))
/-- the number there, of k bytes -/
def takeN (l : List UInt8) (p : Nat) : Nat → Nat
  | 0 => 0
  | k + 1 => takeN l p k + (l.getD (p + k) 0).toNat * 256 ^ k
theorem putL_len (l : List UInt8) (p k n : Nat) : (putL l p k n).length = l.length := by
  induction k with
  | zero => rfl
  | succ k ih => simp [putL, ih]
theorem takeN_lt (l : List UInt8) (p k : Nat) : takeN l p k < 256 ^ k := by
  induction k with
  | zero => simp [takeN]
  | succ k ih =>
    have := (l.getD (p + k) 0).toNat_lt
    simp only [takeN]
    have h2 : (l.getD (p + k) 0).toNat * 256 ^ k ≤ 255 * 256 ^ k := Nat.mul_le_mul_right _ (by omega)
    rw [Nat.pow_succ]
    omega

def Fits (p k : Int) : Prop := 1 ≤ k ∧ k ≤ 4 ∧ 0 ≤ p ∧ p ≤ 128 - k
instance (p k : Int) : Decidable (Fits p k) := by unfold Fits; infer_instance
def fitsB (p k : Int) : Bool := decide (Fits p k)
theorem fitsB_yes {p k : Int} (h : Fits p k) : fitsB p k = true := decide_eq_true h
theorem fitsB_no {p k : Int} (h : ¬ Fits p k) : fitsB p k = false := decide_eq_false h

theorem fits_yes (p k : Int) (h : Fits p k) (w : World) : Calls Try.prog 36 #[.int .i64 p, .int .i64 k] w fun e w' => e = .returned (.bool true) ∧ w = w' := by
  obtain ⟨h1, h2, h3, h4⟩ := h
  have h5 : 128 - k ≤ 127 := by omega
  have h6 : 0 ≤ 128 - k := by omega
  go_enter Try.func36, Try.ntmps36
  go_wp2
  go_ret
  exact ⟨rfl, rfl⟩
theorem fits_no (p k : Int) (h : ¬ Fits p k) (w : World) : Calls Try.prog 36 #[.int .i64 p, .int .i64 k] w fun e w' => e = .returned (.bool false) ∧ w = w' := by
  have hc : k < 1 ∨ (1 ≤ k ∧ 4 < k) ∨ (1 ≤ k ∧ k ≤ 4 ∧ p < 0) ∨ (1 ≤ k ∧ k ≤ 4 ∧ 0 ≤ p ∧ 128 - k < p) := by unfold Fits at h; omega
  clear h
  rcases hc with h1 | ⟨h1, h2⟩ | ⟨h1, h2, h3⟩ | ⟨h1, h2, h3, h4⟩
  · go_enter Try.func36, Try.ntmps36
    go_wp2
    go_ret
    exact ⟨rfl, rfl⟩
  · go_enter Try.func36, Try.ntmps36
    go_wp2
    go_ret
    exact ⟨rfl, rfl⟩
  · go_enter Try.func36, Try.ntmps36
    go_wp2
    go_ret
    exact ⟨rfl, rfl⟩
  · have h5 : decide (p ≤ 128 - k) = false := decide_eq_false (by omega)
    have h6 : 128 - k ≤ 127 := by omega
    have h7 : 0 ≤ 128 - k := by omega
    go_enter Try.func36, Try.ntmps36
    go_wp2
    go_ret
    exact ⟨rfl, rfl⟩

theorem or_i64 (a b k : Nat) (hk : k ≤ 24) (ha : a < 2 ^ k) (hb : b < 256) : bits .or .i64 (a : Int) (((b * 2 ^ k : Nat)) : Int) = ((a + b * 2 ^ k : Nat) : Int) := by
  have h2 : (2 : Nat) ^ k ≤ 2 ^ 24 := Nat.pow_le_pow_right (by decide) hk
  have h3 : b * 2 ^ k ≤ 255 * 2 ^ 24 := Nat.mul_le_mul (by omega) h2
  have e : a ||| b * 2 ^ k = a + b * 2 ^ k := by
    rw [Nat.or_comm, Nat.mul_comm, ← Nat.two_pow_add_eq_or_of_lt ha, Nat.add_comm]
  have o : ∀ x : Nat, x < 2 ^ 64 → (BitVec.ofInt 64 (x : Int)).toNat = x := fun x hx => by
    rw [BitVec.ofInt_natCast, BitVec.toNat_ofNat]; exact Nat.mod_eq_of_lt hx
  show IntKind.i64.wrap ((BitVec.ofInt 64 (a : Int) ||| BitVec.ofInt 64 ((b * 2 ^ k : Nat) : Int)).toNat : Int) = _
  have hlt : a + b * 2 ^ k < 2 ^ 32 := by omega
  rw [BitVec.toNat_or, o a (by omega), o _ (by omega), e]
  clear e o h2 h3 ha
  generalize a + b * 2 ^ k = x at hlt ⊢
  simp [IntKind.wrap, IntKind.bits, IntKind.signed]
  split <;> omega
theorem or_i64_0 (b : Nat) (hb : b < 256) : bits .or .i64 0 (b : Int) = (b : Int) := by
  have := or_i64 0 b 0 (by decide) (by decide) hb
  simpa using this

theorem takeN_one (l : List UInt8) (p : Nat) : takeN l p 1 = (l.getD p 0).toNat := by simp [takeN]

theorem take_text (A : Option Addr) (n c : Nat) (p k : Int) (h0 : n ≠ 0) (h1 : n ≠ 128) (w : World) :
    Calls Try.prog 25 #[.slice A n c, .int .i64 p, .int .i64 k] w fun e w' => e = .returned (.tuple #[.int .i64 0, .int .i64 3]) ∧ Below w.heap.size w w' := by
  go_enter Try.func25, Try.ntmps25
  go_wp2_with fail
  refine (whole_bad _ _ _ h0 h1 _).mono ?_
  rintro e w1 ⟨rfl, b1⟩
  have B0 := box_alloc w1 zeros zeros_len
  go_wp2_with (first
   | (refine Great.wpList_allocTo rfl (some 8) rfl (.pointer (some ⟨w1.heap.size, 0, none⟩)) (.cells (rowV zeros) 71) (by kernel_rfl) ?_)
   | (refine wpList_store_row rfl 71 (.tmp 8) (.tmp 13) rfl w1.heap.size (rowV zeros) rfl rfl 71 _ B0.1 B0.size rfl (rowV_one _) ?_; rw [setRow_alloc]))
  go_ret2
  exact ⟨rfl, Ext.alloc b1 _⟩

set_option maxRecDepth 100000 in
theorem take_ok (A : Option Addr) (n c : Nat) (bs : List UInt8) (hn : n = 0 ∨ n = 128) (p k : Nat) (hk : 1 ≤ k ∧ k ≤ 4) (hp : p + k ≤ 128) (w : World) (hb : Bs w A n bs) :
    Calls Try.prog 25 #[.slice A n c, .int .i64 p, .int .i64 k] w fun e w' => e = .returned (.tuple #[.int .i64 (takeN (wholeL bs) p k), .int .i64 0]) ∧ Below w.heap.size w w' := by
  have hlen := wholeL_len hb.1 hn
  have HF : Hid (Fits p k) := Lib.hid (by unfold Fits; omega)
  go_enter Try.func25, Try.ntmps25
  go_wp2_with fail
  refine (whole_ok _ _ _ bs hn _ hb).mono ?_
  rintro e w1 ⟨rfl, b1⟩
  clear hb hn
  generalize hL : wholeL bs = L at hlen
  have B0 := box_alloc w1 L hlen
  have Z0 := box_alloc w1 zeros zeros_len
  go_wp2_with (first
   | (refine Great.wpList_allocTo rfl (some 8) rfl (.pointer (some ⟨w1.heap.size, 0, none⟩)) (.cells (rowV zeros) 71) (by kernel_rfl) ?_)
   | (refine wpList_store_row rfl 71 (.tmp 8) (.tmp 13) rfl w1.heap.size (rowV L) rfl rfl 71 _ Z0.1 B0.size (by rw [rowV_size, rowV_size, zeros_len, hlen]) (rowV_one _) ?_; rw [setRow_alloc])
   | (go_at_call 36; refine (fits_yes _ _ HF.out _).mono ?_; rintro e w9 ⟨rfl, rfl⟩))
  have BW := Ext.alloc b1 (.cells (rowV L) 71)
  generalize w1.alloc (.cells (rowV L) 71) = W at B0 BW ⊢
  generalize w1.heap.size = g at B0 ⊢
  clear Z0 b1
  go_loop [6, 23] (fun acc i => ∃ j : Nat, j ≤ k ∧ acc = .int .i64 (takeN L p j) ∧ i = .int .i64 j) (fun _ i => k - (intOf i).toNat)
  case atStart => exact ⟨0, Nat.zero_le _, rfl, rfl⟩
  case round =>
    obtain ⟨j, hj, rfl, rfl⟩ := hrel
    by_cases hlt : j < k
    · have hc : W.cell? ⟨g, p + j, none⟩ = some (.int .u8 ((L.getD (p + j) 0).toNat : Int)) := by
        rw [B0.own.cellAt (p + j) (by omega)]
        simp [byteV, show p + j < L.length by omega]
      have hb := (L.getD (p + j) 0).toNat_lt
      have hta := takeN_lt L p j
      have hor := or_i64 (takeN L p j) (L.getD (p + j) 0).toNat (8 * j) (by omega) (by rw [Nat.pow_mul]; exact hta) (by omega)
      have hnext : takeN L p (j + 1) = takeN L p j + (L.getD (p + j) 0).toNat * 2 ^ (8 * j) := by simp only [takeN, Nat.pow_mul]
      rw [← hnext] at hor
      have hn2 := takeN_lt L p (j + 1)
      have HA : ∃ a2, a2 = takeN L p (j + 1) := ⟨_, rfl⟩
      obtain ⟨a2, ha2⟩ := HA
      rw [← ha2] at hor hn2
      have HA := Lib.hid ha2
      clear ha2
      generalize takeN L p j = a1 at hor hta
      generalize (L.getD (p + j) 0).toNat = b at hor hb hc
      clear hnext B0
      have hj4 : j = 0 ∨ j = 1 ∨ j = 2 ∨ j = 3 := by omega
      rcases hj4 with rfl | rfl | rfl | rfl
      all_goals
        simp only [Nat.add_zero, Nat.mul_zero, Nat.reduceMul, Nat.reducePow, Nat.mul_one, Nat.reduceAdd, Nat.zero_add, Int.natCast_mul, Int.cast_ofNat_Int] at hc hor hn2 hta
        go_wp2
        first
          | exact ⟨⟨1, by omega, by first | rw [hor, HA.out] | rw [HA.out], rfl⟩, by simp [intOf]; omega⟩
          | exact ⟨⟨2, by omega, by first | rw [hor, HA.out] | rw [HA.out], rfl⟩, by simp [intOf]; omega⟩
          | exact ⟨⟨3, by omega, by first | rw [hor, HA.out] | rw [HA.out], rfl⟩, by simp [intOf]; omega⟩
          | exact ⟨⟨4, by omega, by first | rw [hor, HA.out] | rw [HA.out], rfl⟩, by simp [intOf]; omega⟩
    · have hj' : j = k := by omega
      subst hj'
      go_wp2
      go_ret2
      exact ⟨rfl, BW⟩

theorem take_arg (A : Option Addr) (n c : Nat) (bs : List UInt8) (hn : n = 0 ∨ n = 128) (p k : Int) (hf : ¬ Fits p k) (w : World) (hb : Bs w A n bs) :
    Calls Try.prog 25 #[.slice A n c, .int .i64 p, .int .i64 k] w fun e w' => e = .returned (.tuple #[.int .i64 0, .int .i64 2]) ∧ Below w.heap.size w w' := by
  have hlen := wholeL_len hb.1 hn
  have HF := Lib.hid hf
  clear hf
  go_enter Try.func25, Try.ntmps25
  go_wp2_with fail
  refine (whole_ok _ _ _ bs hn _ hb).mono ?_
  rintro e w1 ⟨rfl, b1⟩
  clear hb hn
  generalize hL : wholeL bs = L at hlen
  have B0 := box_alloc w1 L hlen
  have Z0 := box_alloc w1 zeros zeros_len
  go_wp2_with (first
   | (refine Great.wpList_allocTo rfl (some 8) rfl (.pointer (some ⟨w1.heap.size, 0, none⟩)) (.cells (rowV zeros) 71) (by kernel_rfl) ?_)
   | (refine wpList_store_row rfl 71 (.tmp 8) (.tmp 13) rfl w1.heap.size (rowV L) rfl rfl 71 _ Z0.1 B0.size (by rw [rowV_size, rowV_size, zeros_len, hlen]) (rowV_one _) ?_; rw [setRow_alloc])
   | (go_at_call 36; refine (fits_no _ _ HF.out _).mono ?_; rintro e w9 ⟨rfl, rfl⟩))
  go_ret2
  exact ⟨rfl, Ext.alloc b1 _⟩

theorem put_text (A : Option Addr) (n c : Nat) (p k x : Int) (h0 : n ≠ 0) (h1 : n ≠ 128) (w : World) :
    Calls Try.prog 32 #[.slice A n c, .int .i64 p, .int .i64 k, .int .i64 x] w fun e w' => e = .returned (.tuple #[.slice none 0 0, .int .i64 3]) ∧ Below w.heap.size w w' := by
  go_enter Try.func32, Try.ntmps32
  go_wp2_with fail
  refine (whole_bad _ _ _ h0 h1 _).mono ?_
  rintro e w1 ⟨rfl, b1⟩
  have B0 := box_alloc w1 zeros zeros_len
  go_wp2_with (first
   | (refine Great.wpList_allocTo rfl (some 10) rfl (.pointer (some ⟨w1.heap.size, 0, none⟩)) (.cells (rowV zeros) 71) (by kernel_rfl) ?_)
   | (refine wpList_store_row rfl 71 (.tmp 10) (.tmp 16) rfl w1.heap.size (rowV zeros) rfl rfl 71 _ B0.1 B0.size rfl (rowV_one _) ?_; rw [setRow_alloc]))
  go_ret2
  exact ⟨rfl, Ext.alloc b1 _⟩

theorem Box.of_own {w : World} {B g : Nat} {l : List UInt8} (hl : l.length = 128) (h : w.ownsRow B 71 1 (.slice (some ⟨g, 0, none⟩) 128 128) 128 (l.map byteV)) : Box w g l := by
  rcases h.2 with ⟨h1, _⟩ | ⟨g', cap, cur, h1, _, hg, _, _, hs, ht⟩
  · cases h1
  · injection h1 with h1 _ h2
    subst h2
    injection h1 with h1
    injection h1 with h1
    subst h1
    refine ⟨?_, hl⟩
    rw [hg]
    have e : cur = rowV l := by
      unfold rowV
      rw [← ht, List.take_of_length_le (by simp [hs])]
    rw [e]
theorem Box.set {w : World} {g : Nat} {l : List UInt8} (h : Box w g l) (j : Nat) (b : UInt8) : Box (w.setCell ⟨g, j, none⟩ (byteV b)) g (l.set j b) := by
  have st := h.own.stored j (byteV b)
  rw [← List.map_set] at st
  exact Box.of_own (by simp [h.2]) st.1
theorem pow_256 (k : Nat) : (256 : Int) ^ k = 2 ^ (8 * k) := by rw [Int.pow_mul]; rfl
theorem shr_no (k x : Int) (hk : 1 ≤ k) (h4 : k ≤ 4) (hx : (256 : Int) ^ k.toNat ≤ x) : (x / 2 ^ min (8 * k).toNat 64 != 0) = true := by
  rw [pow_256] at hx
  have e : min (8 * k).toNat 64 = 8 * k.toNat := by omega
  rw [e]
  have hp : (0 : Int) < 2 ^ (8 * k.toNat) := Int.pow_pos (by decide)
  have : 1 ≤ x / 2 ^ (8 * k.toNat) := by rw [Int.le_ediv_iff_mul_le hp]; omega
  simp
  omega
theorem shr_yes (k x : Nat) (hx : x < 256 ^ k) : ((x : Int) / 2 ^ (8 * k) != 0) = false := by
  have e : (2 : Int) ^ (8 * k) = ((256 ^ k : Nat) : Int) := by rw [← pow_256]; simp
  rw [e, ← Int.natCast_ediv, Nat.div_eq_of_lt hx]
  rfl
theorem shr_byte (j x : Nat) : (x : Int) / 2 ^ (8 * j) % 256 = ((UInt8.ofNat (x / 256 ^ j)).toNat : Int) := by
  have e : (2 : Int) ^ (8 * j) = ((256 ^ j : Nat) : Int) := by rw [← pow_256]; simp
  rw [e, ← Int.natCast_ediv]
  simp

/-- Put's errors behind the text's -/
theorem put_arg (A : Option Addr) (n c : Nat) (bs : List UInt8) (hn : n = 0 ∨ n = 128) (p k x : Int) (hf : ¬ Fits p k ∨ (Fits p k ∧ x < 0) ∨ (Fits p k ∧ decide (x < 0) = false ∧ (x / 2 ^ min (8 * k).toNat 64 != 0) = true)) (w : World) (hb : Bs w A n bs) :
    Calls Try.prog 32 #[.slice A n c, .int .i64 p, .int .i64 k, .int .i64 x] w fun e w' => e = .returned (.tuple #[.slice none 0 0, .int .i64 2]) ∧ Below w.heap.size w w' := by
  have hlen := wholeL_len hb.1 hn
  rcases hf with hf | ⟨hf, _hx⟩ | ⟨hf, _h0, _hx⟩
  all_goals
    have HF := Lib.hid hf
    have hfp : Fits p k → -100 ≤ 8 * k ∧ 8 * k ≤ 100 ∧ 0 ≤ 8 * k := fun h => by unfold Fits at h; omega
    try have hk8 := hfp HF.out
    clear hfp
    clear hf
    go_enter Try.func32, Try.ntmps32
    go_wp2_with fail
    refine (whole_ok _ _ _ bs hn _ hb).mono ?_
    rintro e w1 ⟨rfl, b1⟩
    clear hb hn
    generalize hL : wholeL bs = L at hlen
    have B0 := box_alloc w1 L hlen
    have Z0 := box_alloc w1 zeros zeros_len
    go_wp2_with (first
     | (refine Great.wpList_allocTo rfl (some 10) rfl (.pointer (some ⟨w1.heap.size, 0, none⟩)) (.cells (rowV zeros) 71) (by kernel_rfl) ?_)
     | (refine wpList_store_row rfl 71 (.tmp 10) (.tmp 16) rfl w1.heap.size (rowV L) rfl rfl 71 _ Z0.1 B0.size (by rw [rowV_size, rowV_size, zeros_len, hlen]) (rowV_one _) ?_; rw [setRow_alloc])
     | (go_at_call 36; first | refine (fits_no _ _ HF.out _).mono ?_ | refine (fits_yes _ _ HF.out _).mono ?_
        rintro e w9 ⟨rfl, rfl⟩))
    go_ret2
    exact ⟨rfl, Ext.alloc b1 _⟩

set_option maxRecDepth 100000 in
theorem put_ok (A : Option Addr) (n c : Nat) (bs : List UInt8) (hn : n = 0 ∨ n = 128) (p k x : Nat) (hk : 1 ≤ k ∧ k ≤ 4) (hp : p + k ≤ 128) (hx : x < 256 ^ k) (w : World) (hb : Bs w A n bs) :
    Calls Try.prog 32 #[.slice A n c, .int .i64 p, .int .i64 k, .int .i64 x] w fun e w' => ∃ g, e = .returned (.tuple #[.slice (some ⟨g, 0, none⟩) 128 128, .int .i64 0]) ∧ w.heap.size ≤ g ∧ Box w' g (putL (wholeL bs) p k x) ∧ Below w.heap.size w w' := by
  have hlen := wholeL_len hb.1 hn
  have HF : Hid (Fits p k) := Lib.hid (by unfold Fits; omega)
  have hs := shr_yes k x hx
  have hxd : decide ((x : Int) < 0) = false := decide_eq_false (by omega)
  go_enter Try.func32, Try.ntmps32
  go_wp2_with fail
  refine (whole_ok _ _ _ bs hn _ hb).mono ?_
  rintro e w1 ⟨rfl, b1⟩
  clear hb hn
  generalize hL : wholeL bs = L at hlen
  have B0 := box_alloc w1 L hlen
  have Z0 := box_alloc w1 zeros zeros_len
  go_wp2_with (first
   | (refine Great.wpList_allocTo rfl (some 10) rfl (.pointer (some ⟨w1.heap.size, 0, none⟩)) (.cells (rowV zeros) 71) (by kernel_rfl) ?_)
   | (refine wpList_store_row rfl 71 (.tmp 10) (.tmp 16) rfl w1.heap.size (rowV L) rfl rfl 71 _ Z0.1 B0.size (by rw [rowV_size, rowV_size, zeros_len, hlen]) (rowV_one _) ?_; rw [setRow_alloc])
   | (go_at_call 36; refine (fits_yes _ _ HF.out _).mono ?_; rintro e w9 ⟨rfl, rfl⟩))
  have hBW := Ext.alloc b1 (.cells (rowV L) 71)
  have hgw := b1.size
  have hg2 := B0.lt
  generalize w1.alloc (.cells (rowV L) 71) = W at B0 hBW hg2 ⊢
  generalize w1.heap.size = g at B0 hg2 hgw ⊢
  clear Z0 b1
  have HB0 := Lib.hid B0
  have HBW := Lib.hid hBW
  clear B0 hBW hs
  go_loopw [37] (fun i wr => ∃ j : Nat, j ≤ k ∧ i = .int .i64 j ∧ Box wr g (putL L p j x) ∧ Below w.heap.size w wr) (fun i _ => k - (intOf i).toNat)
  case atStart => exact ⟨0, Nat.zero_le _, rfl, HB0.out, HBW.out⟩
  case round =>
    obtain ⟨j, hj, rfl, bx, bw⟩ := hrel
    by_cases hlt : j < k
    · have hz := shr_byte j x
      have hlen2 : (putL L p j x).length = 128 := by rw [putL_len]; exact hlen
      have hcx : wr.cell? ⟨g, p + j, none⟩ = some (.int .u8 (((putL L p j x).getD (p + j) 0).toNat : Int)) := by
        rw [bx.own.cellAt (p + j) (by omega)]
        simp [byteV, show p + j < (putL L p j x).length by omega]
      have fz := bx.own.frozenAt (p + j)
      have BX := Lib.hid bx
      have HZ := Lib.hid hz
      generalize ((UInt8.ofNat (x / 256 ^ j)).toNat : Int) = z at hz
      have hgr := bx.lt
      clear bx
      go_wp2
      refine ⟨⟨j + 1, by omega, by go_num, ?_, bw.setCell hgw _⟩, by simp [intOf]; omega⟩
      rw [← hz, HZ.out]
      exact BX.out.set (p + j) _
    · have hj' : j = k := by omega
      subst hj'
      go_wp2
      go_ret2
      exact ⟨g, rfl, hgw, by rw [hL]; exact bx, bw⟩
end Go.Proofs.Ytggdfecgkhnkkaa
