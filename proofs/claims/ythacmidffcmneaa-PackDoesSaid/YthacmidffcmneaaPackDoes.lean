/- The statement PackDoes of layer 2 (pack): its walk. -/
import Derived.Test.YthacmidffcmneaaPackRef
namespace Go.Proofs.Ythacmidffcmneaa
open Go.RowKit

theorem Box.cell2 {w : World} {g : Nat} {l : List UInt8} (h : Box w g l) (j : Nat) (hj : j < 128) : w.cell? ⟨g, j, none⟩ = some (.int .u8 ((l.getD j 0).toNat : Int)) := by
  rw [h.own.cellAt j hj]
  simp [byteV, show j < l.length by rw [h.2]; exact hj]
theorem does_many (w : World) (A : Option Addr) (n c : Nat) (p k x : Int) (hn : 1000 < n) :
    Calls Try.prog 4 #[.slice A n c, .int .i64 p, .int .i64 k, .int .i64 x] w fun e w' => e = .returned (.bool true) ∧ Below w.heap.size w w' := by
  go_enter Try.func4, Try.ntmps4
  go_wp2
  go_ret
  exact ⟨rfl, Below.refl _ _⟩

set_option maxRecDepth 100000 in
theorem does_bad (w : World) (A : Option Addr) (n c : Nat) (bs : List UInt8) (hn : n ≤ 1000) (p k x code t tc : Int) (hb : Bs w A n bs)
    (HP : ∀ (W : World) (B : Option Addr) (d : Nat), Bs W B n bs → Calls Try.prog 9 #[.slice B n d, .int .i64 p, .int .i64 k, .int .i64 x] W fun e w' => e = .returned (.tuple #[.slice none 0 0, .int .i64 code]) ∧ Below W.heap.size W w')
    (HQ : ∀ (W : World) (B : Option Addr) (d : Nat), Bs W B n bs → Calls Try.prog 12 #[.slice B n d, .int .i64 p, .int .i64 k, .int .i64 x] W fun e w' => e = .returned (.tuple #[.slice none 0 0, .int .i64 code]) ∧ Below W.heap.size W w')
    (HT : ∀ (W : World) (B : Option Addr) (d : Nat), Bs W B n bs → Calls Try.prog 10 #[.slice B n d, .int .i64 p, .int .i64 k] W fun e w' => e = .returned (.tuple #[.int .i64 t, .int .i64 tc]) ∧ Below W.heap.size W w')
    (HU : ∀ (W : World) (B : Option Addr) (d : Nat), Bs W B n bs → Calls Try.prog 13 #[.slice B n d, .int .i64 p, .int .i64 k] W fun e w' => e = .returned (.tuple #[.int .i64 t, .int .i64 tc]) ∧ Below W.heap.size W w') :
    Calls Try.prog 4 #[.slice A n c, .int .i64 p, .int .i64 k, .int .i64 x] w fun e w' => e = .returned (.bool true) ∧ Below w.heap.size w w' := by
  obtain ⟨i0, hi, hz0, hz1, hz2⟩ := info_b
  have HP' := Lib.hid HP
  have HQ' := Lib.hid HQ
  have HT' := Lib.hid HT
  have HU' := Lib.hid HU
  clear HP HQ HT HU
  go_enter Try.func4, Try.ntmps4
  go_wp2_with (first
    | (at_builtin; refine wpList_append_rd _ rfl (.const (.slice none 0 0)) (.tmp 22) _ rfl w.heap.size 5 i0 _ 1 1 Try.underlying22 hi hz0 hz1 hz2 rfl (by omega) (.slice none 0 0) 0 [] rfl (World.ownsRow_nil _ _ _ _) A n c (bs.map byteV) rfl (by simpa using hb.1) hb.2 (byteV_one _) (by unfold maxLen; omega) (by omega) (by omega) ?_; intro v1 w2 own1 g1 at1; simp only [Nat.zero_add, List.nil_append] at own1))
  obtain ⟨A1, c1, rfl, _, ho2⟩ := Bs.of_own own1
  have b2 : Below w.heap.size w w2 := Ext.grown (Below.refl _ _) g1 (by simp [Value.ownBlock])
  have hb2 := hb.below b2
  clear own1 g1 at1 hb
  go_wp2_with fail
  refine (HP'.out _ _ _ ho2).mono ?_
  rintro e w3 ⟨rfl, b3⟩
  have ho3 := ho2.below b3
  have hb3 := hb2.below b3
  go_wp2_with fail
  refine (HQ'.out _ _ _ hb3).mono ?_
  rintro e w4 ⟨rfl, b4⟩
  have ho4 := ho3.below b4
  have hb4 := hb3.below b4
  go_wp2_with fail
  refine (HT'.out _ _ _ ho4).mono ?_
  rintro e w5 ⟨rfl, b5⟩
  have ho5 := ho4.below b5
  have hb5 := hb4.below b5
  go_wp2_with fail
  refine (HU'.out _ _ _ hb5).mono ?_
  rintro e w6 ⟨rfl, b6⟩
  have s0 := run_string_bs (P := Try.prog) 0 22 9 5 Try.underlying22 Try.underlying5 Try.underlying9 (Bs.nil w6 none)
  have s1 := run_string_bs (P := Try.prog) c1 22 9 5 Try.underlying22 Try.underlying5 Try.underlying9 (ho5.below b6)
  have s2 := run_string_bs (P := Try.prog) c 22 9 5 Try.underlying22 Try.underlying5 Try.underlying9 (hb5.below b6)
  have bt := Ext.trans (Ext.trans (Ext.trans (Ext.trans b2 b3) b4) b5) b6
  clear ho2 ho3 ho4 ho5 hb2 hb3 hb4 hb5 b2 b3 b4 b5 b6 HP' HQ' HT' HU'
  go_wp2_with fail
  refine wp_loop_rounds 1 ?_
  rw [rounds_succ]
  go_wp2
  go_ret
  exact ⟨rfl, bt⟩

set_option maxRecDepth 100000 in
theorem does_ok (w : World) (A : Option Addr) (n c : Nat) (bs : List UInt8) (hn : n = 0 ∨ n = 128) (p k x : Nat) (hk : 1 ≤ k ∧ k ≤ 4) (hp : p + k ≤ 128) (hx : x < 256 ^ k) (hb : Bs w A n bs) :
    Calls Try.prog 4 #[.slice A n c, .int .i64 p, .int .i64 k, .int .i64 x] w fun e w' => e = .returned (.bool true) ∧ Below w.heap.size w w' := by
  obtain ⟨i0, hi, hz0, hz1, hz2⟩ := info_b
  have HN := Lib.hid hn
  have HX := Lib.hid hx
  have hle : n ≤ 128 := by omega
  clear hn hx
  go_enter Try.func4, Try.ntmps4
  go_wp2_with (first
    | (at_builtin; refine wpList_append_rd _ rfl (.const (.slice none 0 0)) (.tmp 22) _ rfl w.heap.size 5 i0 _ 1 1 Try.underlying22 hi hz0 hz1 hz2 rfl (by omega) (.slice none 0 0) 0 [] rfl (World.ownsRow_nil _ _ _ _) A n c (bs.map byteV) rfl (by simpa using hb.1) hb.2 (byteV_one _) (by unfold maxLen; omega) (by omega) (by omega) ?_; intro v1 w2 own1 g1 at1; simp only [Nat.zero_add, List.nil_append] at own1))
  obtain ⟨A1, c1, rfl, _, ho2⟩ := Bs.of_own own1
  have b2 : Below w.heap.size w w2 := Ext.grown (Below.refl _ _) g1 (by simp [Value.ownBlock])
  have hb2 := hb.below b2
  have HO2 := Lib.hid ho2
  have HB2 := Lib.hid hb2
  clear own1 g1 at1 hb
  go_wp2_with fail
  refine (put_ok _ _ _ bs HN.out p k x hk hp HX.out _ ho2).mono ?_
  rintro e w3 ⟨g, rfl, hg, bx3, b3⟩
  have ho3 := ho2.below b3
  have hb3 := hb2.below b3
  have lt3 := bx3.lt
  go_wp2_with fail
  refine (rput_ok _ _ _ bs HN.out p k x hk hp HX.out _ hb3).mono ?_
  rintro e w4 ⟨g', rfl, _, own4, b4⟩
  have y4 := own4.bs
  have bx4 := bx3.below b4 lt3
  have lt4 := Nat.lt_of_lt_of_le lt3 b4.size
  have ho4 := ho3.below b4
  have hb4 := hb3.below b4
  clear own4 bx3
  generalize putL (wholeL bs) p k x = L at y4 bx4
  go_wp2_with fail
  refine (take_ok _ _ _ bs HN.out p k hk hp _ ho4).mono ?_
  rintro e w5 ⟨rfl, b5⟩
  have y5 := y4.below b5
  have bx5 := bx4.below b5 lt4
  have lt5 := Nat.lt_of_lt_of_le lt4 b5.size
  have ho5 := ho4.below b5
  have hb5 := hb4.below b5
  go_wp2_with fail
  refine (rtake_ok _ _ _ bs HN.out p k hk hp _ hb5).mono ?_
  rintro e w6 ⟨rfl, b6⟩
  have y6 := y5.below b6
  have bx6 := bx5.below b6 lt5
  have sx := run_string_bs (P := Try.prog) 128 22 9 5 Try.underlying22 Try.underlying5 Try.underlying9 bx6.bs
  have sy := run_string_bs (P := Try.prog) 128 22 9 5 Try.underlying22 Try.underlying5 Try.underlying9 y6
  have bt2 := Ext.trans (Ext.trans (Ext.trans b3 b4) b5) b6
  have BT2 := Lib.hid bt2
  have B2 := Lib.hid b2
  have BX6 := Lib.hid bx6
  clear ho2 hb2 ho3 ho4 ho5 hb3 hb4 hb5 b2 b3 b4 b5 b6 y4 y5 y6 bx4 bx5 bx6 bt2 lt3 lt4 lt5
  go_wp2_with fail
  clear sx sy
  go_loopw [18] (fun i wr => ∃ j : Nat, j ≤ 128 ∧ i = .int .i64 j ∧ (∃ l, Box wr g l) ∧ Below w2.heap.size w2 wr) (fun i _ => 128 - (intOf i).toNat)
  case atStart => exact ⟨0, Nat.zero_le _, rfl, ⟨_, BX6.out⟩, BT2.out⟩
  case round =>
    obtain ⟨j, hj, rfl, ⟨l, bx⟩, bw⟩ := hrel
    by_cases hlt : j < 128
    · have hc := bx.cell2 j hlt
      have hf := bx.own.frozenAt j
      have hz : (((l.getD j 0).toNat : Int) + 1) % 256 = ((UInt8.ofNat ((l.getD j 0).toNat + 1)).toNat : Int) := by simp
      have hzl := (l.getD j 0).toNat_lt
      have HN2 := Lib.hid (bx.set j (UInt8.ofNat ((l.getD j 0).toNat + 1)))
      have hgl := bx.lt
      clear bx
      generalize UInt8.ofNat ((l.getD j 0).toNat + 1) = z at hz HN2
      generalize (l.getD j 0).toNat = y at hc hz hzl
      have hzi : byteV z = .int .u8 ((z.toNat : Nat) : Int) := rfl
      rw [hzi] at HN2
      generalize (z.toNat : Int) = zi at hz HN2
      clear hzi
      go_wp2
      exact ⟨⟨j + 1, by omega, by go_num, ⟨_, HN2.out⟩, bw.setCell hg _⟩, by simp [intOf]; omega⟩
    · have hj' : j = 128 := by omega
      subst hj'
      have s1 := run_string_bs (P := Try.prog) c1 22 9 5 Try.underlying22 Try.underlying5 Try.underlying9 (HO2.out.below bw)
      have s2 := run_string_bs (P := Try.prog) c 22 9 5 Try.underlying22 Try.underlying5 Try.underlying9 (HB2.out.below bw)
      go_wp2
      go_ret
      exact ⟨rfl, Ext.trans B2.out bw⟩

theorem packDoes_walk' (w : World) (A : Option Addr) (n c : Nat) (bs : List UInt8) (hb : Bs w A n bs) (p k x : Int) :
    Calls Try.prog 4 #[.slice A n c, .int .i64 p, .int .i64 k, .int .i64 x] w fun e w' => e = .returned (.bool true) ∧ Below w.heap.size w w' := by
  by_cases hn : n = 0 ∨ n = 128
  · by_cases hf : Fits p k
    · have hf' := hf
      unfold Fits at hf'
      obtain ⟨q, rfl⟩ := Int.eq_ofNat_of_zero_le (show 0 ≤ p by omega)
      obtain ⟨m, rfl⟩ := Int.eq_ofNat_of_zero_le (show 0 ≤ k by omega)
      have hm : 1 ≤ m ∧ m ≤ 4 := by omega
      have hq : q + m ≤ 128 := by omega
      by_cases hx : x < 0
      · exact does_bad w A n c bs (by omega) q m x 2 _ 0 hb (fun W B d h => put_arg B n d bs hn q m x (.inr (.inl ⟨hf, hx⟩)) W h) (fun W B d _ => rput_less B n d hn q m x hf hx W)
          (fun W B d h => take_ok B n d bs hn q m hm hq W h) (fun W B d h => rtake_ok B n d bs hn q m hm hq W h)
      · obtain ⟨y, rfl⟩ := Int.eq_ofNat_of_zero_le (show 0 ≤ x by omega)
        by_cases hy : y < 256 ^ m
        · exact does_ok w A n c bs hn q m y hm hq hy hb
        · have h2 : (256 : Int) ^ ((m : Int)).toNat ≤ (y : Int) := by
            have h3 : ((256 ^ m : Nat) : Int) ≤ (y : Int) := by omega
            simpa using h3
          exact does_bad w A n c bs (by omega) q m y 2 _ 0 hb (fun W B d h => put_arg B n d bs hn q m y (.inr (.inr ⟨hf, decide_eq_false (by omega), shr_no _ _ (by omega) (by omega) h2⟩)) W h) (fun W B d _ => rput_more B n d hn q m y hf (by omega) W)
            (fun W B d h => take_ok B n d bs hn q m hm hq W h) (fun W B d h => rtake_ok B n d bs hn q m hm hq W h)
    · exact does_bad w A n c bs (by omega) p k x 2 0 2 hb (fun W B d h => put_arg B n d bs hn p k x (.inl hf) W h) (fun W B d _ => rput_unfit B n d hn p k x hf W)
        (fun W B d h => take_arg B n d bs hn p k hf W h) (fun W B d _ => rtake_arg B n d hn p k hf W)
  · by_cases hm : n ≤ 1000
    · exact does_bad w A n c bs hm p k x 3 0 3 hb (fun W B d _ => put_text B n d p k x (by omega) (by omega) W) (fun W B d _ => rput_text B n d p k x (by omega) (by omega) W)
        (fun W B d _ => take_text B n d p k (by omega) (by omega) W) (fun W B d _ => rtake_text B n d p k (by omega) (by omega) W)
    · exact does_many w A n c p k x (by omega)
theorem packDoes_walk (w : World) (v0 : Value) (bs : (Ty.sl .byte).T) (h0 : Reads w (.sl .byte) bs [v0]) (v1 : Value) (p : Ty.int.T) (h1 : Reads w .int p [v1]) (v2 : Value) (k : Ty.int.T) (h2 : Reads w .int k [v2]) (v3 : Value) (x : Ty.int.T) (h3 : Reads w .int x [v3]) :
    Calls Try.prog 4 #[v0, v1, v2, v3] w fun e w' => e = .returned (.bool true) ∧ Below w.heap.size w w' := by
  obtain ⟨A, c, rfl, _, _, hb⟩ := one_bytes h0
  obtain ⟨rfl, _⟩ := one_int h1
  obtain ⟨rfl, _⟩ := one_int h2
  obtain ⟨rfl, _⟩ := one_int h3
  exact packDoes_walk' w A _ c bs hb p k x
end Go.Proofs.Ythacmidffcmneaa
