/- The plain law of the sums: linear over exclusive or; no program in sight. -/
namespace Go.Proofs.Ytclbihcggjjgaaa
namespace Crc

def tab : Array Nat := #[0x00000000, 0x105ec76f, 0x20bd8ede, 0x30e349b1, 0x417b1dbc, 0x5125dad3, 0x61c69362, 0x7198540d,
  0x82f63b78, 0x92a8fc17, 0xa24bb5a6, 0xb21572c9, 0xc38d26c4, 0xd3d3e1ab, 0xe330a81a, 0xf36e6f75]
def W (i : Nat) : Nat := tab.getD i 0
def T (s : Nat) : Nat := (s >>> 4) ^^^ W (s &&& 15)
def step (s : Nat) (x : UInt8) : Nat := T (T (s ^^^ x.toNat))
def run (s : Nat) (l : List UInt8) : Nat := l.foldl step s
def top : Nat := 4294967295
theorem top_lt : top < 2 ^ 32 := by decide
def neg (s : Nat) : Nat := top ^^^ s
theorem neg_def (s : Nat) : neg s = top ^^^ s := rfl
theorem xor_back (t s : Nat) : t ^^^ (t ^^^ s) = s := by rw [← Nat.xor_assoc, Nat.xor_self, Nat.zero_xor]
def over (s : Nat) (l : List UInt8) : Nat := neg (run (neg s) l)
def sum (l : List UInt8) : Nat := over 0 l

theorem and15 (s : Nat) : s &&& 15 < 16 := Nat.lt_of_le_of_lt Nat.and_le_right (by decide)
theorem W_lt (i : Nat) : W i < 2 ^ 32 := by
  by_cases h : i < 16
  · have : ∀ i : Fin 16, W i.1 < 2 ^ 32 := by decide
    exact this ⟨i, h⟩
  · have : W i = 0 := by simp [W, tab, Array.getD, show ¬ i < 16 from h]
    rw [this]; decide
theorem W_xor (a b : Nat) (ha : a < 16) (hb : b < 16) : W (a ^^^ b) = W a ^^^ W b := by
  have : ∀ a b : Fin 16, W (a.1 ^^^ b.1) = W a.1 ^^^ W b.1 := by decide
  exact this ⟨a, ha⟩ ⟨b, hb⟩
theorem W_top (a : Nat) (ha : a < 16) : W a >>> 28 = a := by
  have : ∀ a : Fin 16, W a.1 >>> 28 = a.1 := by decide
  exact this ⟨a, ha⟩
theorem T_xor (a b : Nat) : T (a ^^^ b) = T a ^^^ T b := by
  unfold T
  rw [Nat.shiftRight_xor_distrib, Nat.and_xor_distrib_right, W_xor _ _ (and15 a) (and15 b)]
  ac_rfl
theorem T_lt (s : Nat) (h : s < 2 ^ 32) : T s < 2 ^ 32 :=
  Nat.xor_lt_two_pow (Nat.lt_of_le_of_lt (Nat.shiftRight_le _ _) h) (W_lt _)
theorem T_top (s : Nat) (h : s < 2 ^ 32) : T s >>> 28 = s &&& 15 := by
  unfold T
  rw [Nat.shiftRight_xor_distrib, W_top _ (and15 s), ← Nat.shiftRight_add]
  have : s >>> (4 + 28) = 0 := by rw [Nat.shiftRight_eq_div_pow]; exact Nat.div_eq_of_lt (by simpa using h)
  rw [this, Nat.zero_xor]
/-- a small image has one small source -/
theorem T_small (s y : Nat) (h : s < 2 ^ 32) (hy : y < 2 ^ 28) (e : T s = y) : s = 16 * y := by
  have h1 := T_top s h
  rw [e, Nat.shiftRight_eq_div_pow, Nat.div_eq_of_lt hy] at h1
  have h2 : T s = s >>> 4 := by
    unfold T
    rw [← h1]
    show s >>> 4 ^^^ 0 = _
    rw [Nat.xor_zero]
  rw [h2, Nat.shiftRight_eq_div_pow] at e
  have h3 : s % 16 = 0 := by
    have := Nat.and_two_pow_sub_one_eq_mod s 4
    simp at this
    omega
  omega
theorem T_mul (y : Nat) : T (16 * y) = y := by
  unfold T
  have h1 : (16 * y) &&& 15 = 0 := by
    have := Nat.and_two_pow_sub_one_eq_mod (16 * y) 4
    simp at this
    omega
  rw [h1, Nat.shiftRight_eq_div_pow]
  show 16 * y / 2 ^ 4 ^^^ 0 = _
  rw [Nat.xor_zero]
  omega
theorem T_zero : T 0 = 0 := by decide
theorem T_eq_zero (s : Nat) (h : s < 2 ^ 32) (e : T s = 0) : s = 0 := by
  have := T_small s 0 h (by decide) e
  omega
theorem xor_self_iff (a b : Nat) : a ^^^ b = 0 ↔ a = b := by
  constructor
  · intro h
    have := congrArg (· ^^^ b) h
    simpa [Nat.xor_assoc] using this
  · rintro rfl; exact Nat.xor_self _

theorem u8lt (x : UInt8) : x.toNat < 2 ^ 32 := Nat.lt_trans x.toNat_lt (by decide)
theorem step_lt (s : Nat) (x : UInt8) (h : s < 2 ^ 32) : step s x < 2 ^ 32 := T_lt _ (T_lt _ (Nat.xor_lt_two_pow h (u8lt x)))
theorem run_lt (l : List UInt8) : ∀ s, s < 2 ^ 32 → run s l < 2 ^ 32 := by
  induction l with
  | nil => intro s h; exact h
  | cons x l ih => intro s h; exact ih _ (step_lt s x h)
theorem run_append (s : Nat) (a b : List UInt8) : run s (a ++ b) = run (run s a) b := List.foldl_append
theorem run_cons (s : Nat) (x : UInt8) (b : List UInt8) : run s (x :: b) = run (step s x) b := rfl
theorem run_nil (s : Nat) : run s [] = s := rfl
theorem run_snoc (s : Nat) (l : List UInt8) (x : UInt8) : run s (l ++ [x]) = step (run s l) x := by rw [run_append]; rfl
theorem step_xor (s t : Nat) (x y : UInt8) : step (s ^^^ t) (x ^^^ y) = step s x ^^^ step t y := by
  unfold step
  rw [← T_xor, ← T_xor, UInt8.toNat_xor]
  congr 2
  ac_rfl
theorem run_xor : ∀ (l m : List UInt8) (s t : Nat), l.length = m.length → run (s ^^^ t) (List.zipWith (· ^^^ ·) l m) = run s l ^^^ run t m
  | [], [], s, t, _ => rfl
  | x :: l, y :: m, s, t, h => by
    simp only [List.zipWith_cons_cons, run_cons, step_xor]
    exact run_xor l m _ _ (by simpa using h)
  | [], _ :: _, _, _, h => by simp at h
  | _ :: _, [], _, _, h => by simp at h
theorem step_eq_zero (s : Nat) (h : s < 2 ^ 32) (e : step s 0 = 0) : s = 0 := by
  unfold step at e
  have : s ^^^ (0 : UInt8).toNat = s := Nat.xor_zero s
  rw [this] at e
  exact T_eq_zero s h (T_eq_zero _ (T_lt _ h) e)
theorem run_zeros_eq_zero : ∀ (n s : Nat), s < 2 ^ 32 → run s (List.replicate n 0) = 0 → s = 0
  | 0, _, _, e => e
  | n + 1, s, h, e => step_eq_zero s h (run_zeros_eq_zero n _ (step_lt s 0 h) e)
theorem zip_self (l : List UInt8) : List.zipWith (· ^^^ ·) l l = List.replicate l.length 0 := by
  induction l with
  | nil => rfl
  | cons x l ih => rw [List.zipWith_cons_cons, ih, UInt8.xor_self]; rfl
theorem run_inj (l : List UInt8) (s t : Nat) (hs : s < 2 ^ 32) (ht : t < 2 ^ 32) : run s l = run t l ↔ s = t := by
  refine ⟨fun h => ?_, fun h => by rw [h]⟩
  have h1 := run_xor l l s t rfl
  rw [zip_self, h, Nat.xor_self] at h1
  exact (xor_self_iff _ _).1 (run_zeros_eq_zero _ _ (Nat.xor_lt_two_pow hs ht) h1)
theorem neg_neg (s : Nat) : neg (neg s) = s := by rw [neg_def, neg_def, xor_back]
theorem neg_inj (s t : Nat) : neg s = neg t ↔ s = t := ⟨fun h => by rw [← neg_neg s, h, neg_neg], fun h => by rw [h]⟩
theorem neg_lt (s : Nat) (h : s < 2 ^ 32) : neg s < 2 ^ 32 := by rw [neg_def]; exact Nat.xor_lt_two_pow top_lt h
theorem neg_sub (s : Nat) (h : s < 2 ^ 32) : neg s = 4294967295 - s := by
  have h1 : (~~~ (BitVec.ofNat 32 s)).toNat = neg s := by
    rw [← BitVec.xor_allOnes]
    rw [neg_def]
    simp [top, BitVec.toNat_xor, Nat.mod_eq_of_lt h, Nat.xor_comm]
  rw [BitVec.toNat_not, BitVec.toNat_ofNat, Nat.mod_eq_of_lt h] at h1
  omega
theorem over_lt (s : Nat) (l : List UInt8) (h : s < 2 ^ 32) : over s l < 2 ^ 32 := neg_lt _ (run_lt l _ (neg_lt s h))
theorem sum_lt (l : List UInt8) : sum l < 2 ^ 32 := over_lt 0 l (by decide)
theorem over_append (s : Nat) (a b : List UInt8) : over s (a ++ b) = over (over s a) b := by
  unfold over; rw [run_append, neg_neg]
theorem sum_append (a b : List UInt8) : sum (a ++ b) = over (sum a) b := over_append 0 a b
theorem over_inj (l : List UInt8) (s t : Nat) (hs : s < 2 ^ 32) (ht : t < 2 ^ 32) : over s l = over t l ↔ s = t := by
  unfold over
  rw [neg_inj, run_inj l _ _ (neg_lt s hs) (neg_lt t ht), neg_inj]
theorem step_small (s y : Nat) (x : UInt8) (hs : s < 2 ^ 32) (hy : y < 2 ^ 24) (e : step s x = y) : s = 256 * y ^^^ x.toNat := by
  unfold step at e
  have h1 := T_small _ y (T_lt _ (Nat.xor_lt_two_pow hs (u8lt x))) (by omega) e
  have h2 := T_small _ (16 * y) (Nat.xor_lt_two_pow hs (u8lt x)) (by omega) h1
  rw [show 16 * (16 * y) = 256 * y by omega] at h2
  rw [← h2, Nat.xor_assoc, Nat.xor_self, Nat.xor_zero]
theorem xor_lt8 (a k : Nat) (x : UInt8) (hk : 8 ≤ k) (h : a < 2 ^ k) : a ^^^ x.toNat < 2 ^ k :=
  Nat.xor_lt_two_pow h (Nat.lt_of_lt_of_le x.toNat_lt (Nat.pow_le_pow_right (by decide) hk))
theorem mul256_xor (a : Nat) (x : UInt8) (h : 256 * a ^^^ x.toNat = 0) : a = 0 ∧ x = 0 := by
  have h1 := (xor_self_iff _ _).1 h
  have h2 := x.toNat_lt
  have : a = 0 := by omega
  subst this
  refine ⟨rfl, UInt8.toNat_inj.1 ?_⟩
  simpa using h1.symm
/-- four bytes from nought on end at nought only if all are noughts -/
theorem four (a b c d : UInt8) (h : run 0 [a, b, c, d] = 0) : a = 0 ∧ b = 0 ∧ c = 0 ∧ d = 0 := by
  simp only [run_cons, run_nil] at h
  have l1 := step_lt 0 a (by decide)
  have l2 := step_lt _ b l1
  have l3 := step_lt _ c l2
  have e3 := step_small _ 0 d l3 (by decide) h
  have s3 : step (step (step 0 a) b) c < 2 ^ 8 := by rw [e3]; exact xor_lt8 _ 8 d (by omega) (by decide)
  have e2 := step_small _ _ c l2 (by omega) rfl
  have s2 : step (step 0 a) b < 2 ^ 16 := by rw [e2]; exact xor_lt8 _ 16 c (by omega) (by omega)
  have e1 := step_small _ _ b l1 (by omega) rfl
  have s1 : step 0 a < 2 ^ 24 := by rw [e1]; exact xor_lt8 _ 24 b (by omega) (by omega)
  have e0 := step_small 0 _ a (by decide) s1 rfl
  obtain ⟨z1, ha⟩ := mul256_xor _ _ e0.symm
  obtain ⟨z2, hb⟩ := mul256_xor _ _ (e1.symm.trans z1)
  obtain ⟨z3, hc⟩ := mul256_xor _ _ (e2.symm.trans z2)
  obtain ⟨_, hd⟩ := mul256_xor _ _ (e3.symm.trans z3)
  exact ⟨ha, hb, hc, hd⟩
theorem zip_zeros (l : List UInt8) : List.zipWith (· ^^^ ·) l (List.replicate l.length 0) = l := by
  induction l with
  | nil => rfl
  | cons x l ih => simp [ih, List.replicate_succ]
/-- four bytes side by side turned: another sum -/
theorem run_turned (s : Nat) (p q : List UInt8) (a b c d x0 x1 x2 x3 : UInt8) (hs : s < 2 ^ 32)
    (h : run s (p ++ [a, b, c, d] ++ q) = run s (p ++ [a ^^^ x0, b ^^^ x1, c ^^^ x2, d ^^^ x3] ++ q)) : x0 = 0 ∧ x1 = 0 ∧ x2 = 0 ∧ x3 = 0 := by
  simp only [run_append] at h
  have lp := run_lt p s hs
  have h1 := (run_inj q _ _ (run_lt _ _ lp) (run_lt _ _ lp)).1 h
  have h2 := run_xor [a, b, c, d] [x0, x1, x2, x3] (run s p) 0 rfl
  simp only [List.zipWith_cons_cons, List.zipWith_nil_left, Nat.xor_zero] at h2
  rw [← h1] at h2
  have h3 : run 0 [x0, x1, x2, x3] = 0 := by
    have := congrArg (fun t => run (run s p) [a, b, c, d] ^^^ t) h2
    simpa [← Nat.xor_assoc] using this.symm
  exact four _ _ _ _ h3
theorem over_turned (s : Nat) (p q : List UInt8) (a b c d x0 x1 x2 x3 : UInt8) (hs : s < 2 ^ 32)
    (h : over s (p ++ [a, b, c, d] ++ q) = over s (p ++ [a ^^^ x0, b ^^^ x1, c ^^^ x2, d ^^^ x3] ++ q)) : x0 = 0 ∧ x1 = 0 ∧ x2 = 0 ∧ x3 = 0 :=
  run_turned (neg s) p q a b c d x0 x1 x2 x3 (neg_lt s hs) ((neg_inj _ _).1 h)

/-- the bytes of a number, the lowest first, from that number on, end at nought -/
def own (s : Nat) : List UInt8 := [UInt8.ofNat s, UInt8.ofNat (s / 256), UInt8.ofNat (s / 65536), UInt8.ofNat (s / 16777216)]
theorem xor_low (s : Nat) : s ^^^ (UInt8.ofNat s).toNat = 256 * (s / 256) := by
  have h1 : (UInt8.ofNat s).toNat = s % 256 := by simp
  rw [h1]
  have h2 : s = 2 ^ 8 * (s / 256) + s % 256 := by omega
  have h3 := Nat.two_pow_add_eq_or_of_lt (i := 8) (b := s % 256) (by omega) (s / 256)
  have h4 : 2 ^ 8 * (s / 256) ||| s % 256 = 2 ^ 8 * (s / 256) ^^^ s % 256 := by
    apply Nat.eq_of_testBit_eq
    intro i
    rw [Nat.testBit_or, Nat.testBit_xor]
    by_cases hi : i < 8
    · rw [Nat.testBit_two_pow_mul]
      simp [show ¬ 8 ≤ i by omega]
    · have : (s % 256).testBit i = false := Nat.testBit_lt_two_pow (Nat.lt_of_lt_of_le (show s % 256 < 2 ^ 8 by omega) (Nat.pow_le_pow_right (by decide) (by omega)))
      simp [this]
  rw [h4] at h3
  calc s ^^^ s % 256 = (2 ^ 8 * (s / 256) ^^^ s % 256) ^^^ s % 256 := by rw [← h3, ← h2]
    _ = 256 * (s / 256) := by rw [Nat.xor_assoc, Nat.xor_self, Nat.xor_zero]
theorem step_low (s : Nat) : step s (UInt8.ofNat s) = s / 256 := by
  unfold step
  rw [xor_low, show 256 * (s / 256) = 16 * (16 * (s / 256)) by omega, T_mul, T_mul]
theorem run_own (s : Nat) (h : s < 2 ^ 32) : run s (own s) = 0 := by
  unfold own
  rw [run_cons, step_low, run_cons, step_low, run_cons, show s / 256 / 256 = s / 65536 by omega, step_low, run_cons,
    show s / 65536 / 256 = s / 16777216 by omega, step_low, run_nil]
  omega
theorem over_own (s : Nat) (h : s < 2 ^ 32) : over s (own s) = neg (run top [0, 0, 0, 0]) := by
  unfold over
  rw [neg_inj]
  have h1 := run_xor [0, 0, 0, 0] (own s) top s rfl
  rw [run_own s h, Nat.xor_zero] at h1
  rw [← h1]
  congr 1
  simp [own]
theorem three_any (t x y z : Nat) : t ^^^ (x ^^^ y ^^^ z) = (t ^^^ x) ^^^ (t ^^^ y) ^^^ (t ^^^ z) := by
  have e5 : (t ^^^ x) ^^^ (t ^^^ y) ^^^ (t ^^^ z) = (t ^^^ t) ^^^ (t ^^^ (x ^^^ y ^^^ z)) := by ac_rfl
  rw [e5, Nat.xor_self, Nat.zero_xor]
theorem over_three (a b c : List UInt8) (h1 : a.length = b.length) (h2 : b.length = c.length) :
    sum (List.zipWith (· ^^^ ·) (List.zipWith (· ^^^ ·) a b) c) = sum a ^^^ sum b ^^^ sum c := by
  have key : ∀ n, run n (List.zipWith (· ^^^ ·) (List.zipWith (· ^^^ ·) a b) c) = run n a ^^^ run n b ^^^ run n c := by
    intro n
    have e1 := run_xor a b n n h1
    have e2 := run_xor (List.zipWith (· ^^^ ·) a b) c (n ^^^ n) n (by simp [h1, h2])
    rw [e1, Nat.xor_self, Nat.zero_xor] at e2
    exact e2
  unfold sum over
  rw [key, neg_def, neg_def (run _ a), neg_def (run _ b), neg_def (run _ c), three_any]

/-! the bit by bit form -/
def bit (n : Nat) : Nat := if n % 2 = 1 then n / 2 ^^^ 2197175160 else n / 2
theorem bit_xor (a b : Nat) : bit (a ^^^ b) = bit a ^^^ bit b := by
  have hm : (a ^^^ b) % 2 = (a % 2) ^^^ (b % 2) := Nat.xor_mod_two_pow (n := 1)
  have hd : (a ^^^ b) / 2 = a / 2 ^^^ b / 2 := by
    have := Nat.shiftRight_xor_distrib (a := a) (b := b) (i := 1)
    simpa [Nat.shiftRight_eq_div_pow] using this
  unfold bit
  rw [hm, hd]
  have ha : a % 2 = 0 ∨ a % 2 = 1 := by omega
  have hb : b % 2 = 0 ∨ b % 2 = 1 := by omega
  rcases ha with ha | ha <;> rcases hb with hb | hb <;> simp [ha, hb]
  · ac_rfl
  · ac_rfl
  · have : a / 2 ^^^ 2197175160 ^^^ (b / 2 ^^^ 2197175160) = (2197175160 ^^^ 2197175160) ^^^ (a / 2 ^^^ b / 2) := by ac_rfl
    rw [this, Nat.xor_self, Nat.zero_xor]
theorem bit_two (m : Nat) : bit (2 * m) = m := by unfold bit; rw [if_neg (by omega)]; omega
theorem bit4_mul (m : Nat) : bit (bit (bit (bit (16 * m)))) = m := by
  rw [show 16 * m = 2 * (2 * (2 * (2 * m))) by omega, bit_two, bit_two, bit_two, bit_two]
theorem bit4_small (i : Nat) (h : i < 16) : bit (bit (bit (bit i))) = W i := by
  have : ∀ i : Fin 16, bit (bit (bit (bit i.1))) = W i.1 := by decide
  exact this ⟨i, h⟩
theorem split16 (s : Nat) : s = 16 * (s >>> 4) ^^^ (s &&& 15) := by
  apply Nat.eq_of_testBit_eq
  intro i
  rw [Nat.testBit_xor, Nat.testBit_and, show (16 : Nat) = 2 ^ 4 from rfl, Nat.testBit_two_pow_mul, Nat.testBit_shiftRight,
    show (15 : Nat) = 2 ^ 4 - 1 from rfl, Nat.testBit_two_pow_sub_one]
  by_cases hi : 4 ≤ i
  · simp [hi, show 4 + (i - 4) = i by omega, show ¬ i < 4 by omega]
  · simp [hi, show i < 4 by omega]
theorem bit4 (s : Nat) : bit (bit (bit (bit s))) = T s := by
  conv => lhs; rw [split16 s]
  rw [bit_xor, bit_xor, bit_xor, bit_xor, bit4_mul, bit4_small _ (and15 s)]
  rfl
theorem bit8 (s : Nat) (x : UInt8) : bit (bit (bit (bit (bit (bit (bit (bit (s ^^^ x.toNat)))))))) = step s x := by
  rw [bit4, bit4]; rfl
end Crc
end Go.Proofs.Ytclbihcggjjgaaa
