/- The statements of layer 1 (poly): their walks. -/
import Derived.Test.YtnlabkkodilppaaPolyRef
import Derived.Test.YtnlabkkodilppaaData
import Derived.Lib.SlBytesConst
namespace Go.Proofs.Ytnlabkkodilppaa
open Go.RowKit

theorem palive_any (w : World) : Calls Try.prog 10 #[] w fun e w' => e = .returned (.bool true) ∧ Below w.heap.size w w' := by
  have kc := fun (w : World) (C : Array Value) (n c : Nat) => Lib.run_convert_bytes_const (P := Try.prog) w 26 5 C n c Try.underlying26 Try.underlying5
  have hs : Crc.sum [49, 50, 51, 52, 53, 54, 55, 56, 57] = 3808858755 := by decide +kernel
  go_enter Try.func10, Try.ntmps10
  go_wp2_with (first | (go_at_call 11; refine (sum_any _ _ _ [49, 50, 51, 52, 53, 54, 55, 56, 57] _ (Bs.new w _ _ _ 9 _ rfl rfl) (by omega)).mono ?_; rintro e w' ⟨rfl, hb⟩))
  go_ret
  exact ⟨rfl, ((Below.refl _ _).alloc (Nat.le_refl _) _).trans (hb.mono (by simp))⟩

theorem polyNames_walk (w : World) : Calls Try.prog 3 #[] w fun e w' => e = .returned (.bool true) ∧ Below w.heap.size w w' := by
  have kc := fun (w : World) (C : Array Value) (n c : Nat) => Lib.run_convert_bytes_const (P := Try.prog) w 26 5 C n c Try.underlying26 Try.underlying5
  have e1 : Crc.sum [] = 0 := by decide +kernel
  have e2 : Crc.over 3808858755 [] = 3808858755 := by decide +kernel
  have e3 : Crc.over (Crc.sum [49, 50, 51, 52]) [53, 54, 55, 56, 57] = 3808858755 := by decide +kernel
  go_enter Try.func3, Try.ntmps3
  go_wp2_with fail
  refine (palive_any _).mono ?_
  rintro e w1 ⟨rfl, hb1⟩
  go_wp2_with fail
  refine (sum_any none 0 0 [] _ (Bs.nil _ _) (by omega)).mono ?_
  rintro e w2 ⟨rfl, hb2⟩
  go_wp2_with fail
  refine (over_any none 0 0 [] 3808858755 (by omega) _ (Bs.nil _ _) (by omega)).mono ?_
  rintro e w3 ⟨rfl, hb3⟩
  go_wp2_with fail
  refine (sum_any _ _ _ [49, 50, 51, 52] _ (Bs.new w3 _ _ _ 4 _ rfl rfl) (by omega)).mono ?_
  rintro e w4 ⟨rfl, hb4⟩
  go_wp2_with fail
  refine (over_any _ _ _ [53, 54, 55, 56, 57] _ (Crc.sum_lt _) _ (Bs.new w4 _ _ _ 5 _ rfl rfl) (by omega)).mono ?_
  rintro e w5 ⟨rfl, hb5⟩
  go_wp2
  go_ret
  refine ⟨rfl, ?_⟩
  have z1 := hb1.size
  have z2 := hb2.size
  have z3 := hb3.size
  have h3 : Below w.heap.size w w3 := (hb1.trans (hb2.mono z1)).trans (hb3.mono (by omega))
  have z4 := hb4.size
  simp at z4
  have h4 : Below w.heap.size w w4 := (h3.alloc (by omega) _).trans (hb4.mono (by simp; omega))
  exact (h4.alloc (by omega) _).trans (hb5.mono (by simp; omega))

set_option maxRecDepth 100000 in
theorem polyTells_walk (w : World) (v0 : Value) (s : Ty.u32.T) (h0 : Reads w .u32 s [v0]) (v1 : Value) (bs : (Ty.sl .byte).T) (h1 : Reads w (.sl .byte) bs [v1]) :
    Calls Try.prog 4 #[v0, v1] w fun e w' => e = .returned (.bool true) ∧ Below w.heap.size w w' := by
  obtain ⟨rfl, hs⟩ := one_u32 h0
  obtain ⟨A, c, rfl, hc, hm, hb⟩ := one_bytes h1
  change List UInt8 at bs
  change Nat at s
  clear h0 h1 hm hc
  generalize hn : bs.length = n at hb
  clear hn
  by_cases hgt : 10000 < n
  · go_enter Try.func4, Try.ntmps4
    go_wp2
    go_ret
    exact ⟨rfl, Below.refl _ _⟩
  · have hle : n ≤ 10000 := by omega
    clear hgt
    have k1 := run_string_bs (P := Try.prog) c 26 9 5 Try.underlying26 Try.underlying5 Try.underlying9 hb
    go_enter Try.func4, Try.ntmps4
    go_wp2_with fail
    refine (sum_any _ _ _ bs _ hb (by omega)).mono ?_
    rintro e w1 ⟨rfl, b1⟩
    have hb1 := hb.below b1
    go_wp2_with fail
    refine (rsum_any _ _ _ bs _ hb1 (by omega)).mono ?_
    rintro e _ ⟨rfl, rfl⟩
    go_wp2_with fail
    refine (over_any _ _ _ bs s hs _ hb1 (by omega)).mono ?_
    rintro e w2 ⟨rfl, b2⟩
    have hb2 := hb1.below b2
    go_wp2_with fail
    refine (rover_any _ _ _ bs s hs _ hb2 (by omega)).mono ?_
    rintro e _ ⟨rfl, rfl⟩
    have k2 := run_string_bs (P := Try.prog) c 26 9 5 Try.underlying26 Try.underlying5 Try.underlying9 hb2
    go_wp2
    go_ret
    exact ⟨rfl, Ext.trans b1 b2⟩

set_option maxRecDepth 100000 in
theorem polyApart_walk (w : World) (v0 : Value) (s : Ty.u32.T) (h0 : Reads w .u32 s [v0]) (v1 : Value) (t : Ty.u32.T) (h1 : Reads w .u32 t [v1]) (v2 : Value) (bs : (Ty.sl .byte).T) (h2 : Reads w (.sl .byte) bs [v2]) :
    Calls Try.prog 7 #[v0, v1, v2] w fun e w' => e = .returned (.bool true) ∧ Below w.heap.size w w' := by
  obtain ⟨rfl, hs⟩ := one_u32 h0
  obtain ⟨rfl, ht⟩ := one_u32 h1
  obtain ⟨A, c, rfl, hc, hm, hb⟩ := one_bytes h2
  change List UInt8 at bs
  change Nat at s t
  clear h0 h1 h2 hm hc
  generalize hn : bs.length = n at hb
  clear hn
  by_cases hgt : 10000 < n
  · go_enter Try.func7, Try.ntmps7
    go_wp2_with fail
    refine (palive_any _).mono ?_
    rintro e w1 ⟨rfl, b1⟩
    go_wp2
    go_ret
    exact ⟨rfl, b1⟩
  · have hle : n ≤ 10000 := by omega
    clear hgt
    have hi := Crc.over_inj bs s t hs ht
    have he : (((Crc.over s bs : Nat) : Int) == ((Crc.over t bs : Nat) : Int)) = ((s : Int) == (t : Int)) := by
      rw [Bool.eq_iff_iff]
      simp only [beq_iff_eq]
      omega
    clear hi
    go_enter Try.func7, Try.ntmps7
    go_wp2_with fail
    refine (palive_any _).mono ?_
    rintro e w1 ⟨rfl, b1⟩
    have hb1 := hb.below b1
    go_wp2_with fail
    refine (over_any _ _ _ bs s hs _ hb1 (by omega)).mono ?_
    rintro e w2 ⟨rfl, b2⟩
    have hb2 := hb1.below b2
    go_wp2_with fail
    refine (over_any _ _ _ bs t ht _ hb2 (by omega)).mono ?_
    rintro e w3 ⟨rfl, b3⟩
    go_wp2
    go_ret
    exact ⟨rfl, Ext.trans (Ext.trans b1 b2) b3⟩

theorem own_vals (s : Nat) (h : s < 2 ^ 32) : (Crc.own s).map byteV = [.int .u8 ((s : Int) % 256), .int .u8 ((s : Int) / 256 % 256), .int .u8 ((s : Int) / 65536 % 256), .int .u8 ((s : Int) / 16777216)] := by
  have e : (s : Int) / 16777216 = (s : Int) / 16777216 % 256 := by omega
  rw [e]
  simp [Crc.own, byteV]

theorem own_any (A : Option Addr) (n c : Nat) (bs : List UInt8) (w : World) (hb : Bs w A n bs) (hn : n ≤ 1000000) :
    Calls Try.prog 15 #[.slice A n c] w fun e w' => ∃ A', e = .returned (.slice A' 4 4) ∧ Bs w' A' 4 (Crc.own (Crc.sum bs)) ∧ Below w.heap.size w w' := by
  have hl := Crc.sum_lt bs
  go_enter Try.func15, Try.ntmps15
  go_wp2_with fail
  refine (sum_any _ _ _ bs _ hb (by omega)).mono ?_
  rintro e w1 ⟨rfl, b1⟩
  generalize hs : Crc.sum bs = s at hl
  have H := Lib.hid hs
  clear hs
  go_wp2
  go_ret
  refine ⟨_, rfl, ?_, Ext.alloc b1 _⟩
  rw [H.out]
  exact Bs.new _ _ _ _ 4 _ rfl (by rw [own_vals s hl]; rfl)

set_option maxRecDepth 100000 in
theorem polySelf_walk (w : World) (v0 : Value) (xs : (Ty.sl .byte).T) (h0 : Reads w (.sl .byte) xs [v0]) (v1 : Value) (ys : (Ty.sl .byte).T) (h1 : Reads w (.sl .byte) ys [v1]) :
    Calls Try.prog 8 #[v0, v1] w fun e w' => e = .returned (.bool true) ∧ Below w.heap.size w w' := by
  obtain ⟨A, c, rfl, _, _, ha⟩ := one_bytes h0
  obtain ⟨B, d, rfl, _, _, hb⟩ := one_bytes h1
  change List UInt8 at xs ys
  clear h0 h1
  generalize hn : xs.length = n at ha
  generalize hm : ys.length = m at hb
  clear hn hm
  by_cases hgt : 10000 < n
  · go_enter Try.func8, Try.ntmps8
    go_wp2_with fail
    refine (palive_any _).mono ?_
    rintro e w1 ⟨rfl, b1⟩
    go_wp2
    go_ret
    exact ⟨rfl, b1⟩
  have hle : n ≤ 10000 := by omega
  clear hgt
  by_cases hgt : 10000 < m
  · go_enter Try.func8, Try.ntmps8
    go_wp2_with fail
    refine (palive_any _).mono ?_
    rintro e w1 ⟨rfl, b1⟩
    go_wp2
    go_ret
    exact ⟨rfl, b1⟩
  have hle' : m ≤ 10000 := by omega
  clear hgt
  have e1 := Crc.over_own (Crc.sum xs) (Crc.sum_lt xs)
  have e2 := Crc.over_own (Crc.sum ys) (Crc.sum_lt ys)
  generalize Crc.neg (Crc.run Crc.top [0, 0, 0, 0]) = z at e1 e2
  have l1 := Crc.sum_lt xs
  have l2 := Crc.sum_lt ys
  go_enter Try.func8, Try.ntmps8
  go_wp2_with fail
  refine (palive_any _).mono ?_
  rintro e w1 ⟨rfl, b1⟩
  have ha1 := ha.below b1
  go_wp2_with fail
  refine (sum_any _ _ _ xs _ ha1 (by omega)).mono ?_
  rintro e w2 ⟨rfl, b2⟩
  have ha2 := ha1.below b2
  go_wp2_with fail
  refine (own_any _ _ _ xs _ ha2 (by omega)).mono ?_
  rintro e w3 ⟨A', rfl, o3, b3⟩
  go_wp2_with fail
  refine (over_any _ _ _ _ (Crc.sum xs) l1 _ o3 (by omega)).mono ?_
  rintro e w4 ⟨rfl, b4⟩
  have b14 := Ext.trans (Ext.trans (Ext.trans b1 b2) b3) b4
  have hb4 := hb.below b14
  go_wp2_with fail
  refine (sum_any _ _ _ ys _ hb4 (by omega)).mono ?_
  rintro e w5 ⟨rfl, b5⟩
  have hb5 := hb4.below b5
  go_wp2_with fail
  refine (own_any _ _ _ ys _ hb5 (by omega)).mono ?_
  rintro e w6 ⟨B', rfl, o6, b6⟩
  go_wp2_with fail
  refine (over_any _ _ _ _ (Crc.sum ys) l2 _ o6 (by omega)).mono ?_
  rintro e w7 ⟨rfl, b7⟩
  go_wp2
  go_ret
  exact ⟨rfl, Ext.trans (Ext.trans (Ext.trans b14 b5) b6) b7⟩

theorem info_u8 : (Try.prog.info? 5).map (fun i => (i.zero, i.size, i.bytes)) = some (some (.int .u8 0), 1, 1) := by kernel_rfl

set_option maxRecDepth 100000 in
theorem polyOn_walk (w : World) (v0 : Value) (s : Ty.u32.T) (h0 : Reads w .u32 s [v0]) (v1 : Value) (xs : (Ty.sl .byte).T) (h1 : Reads w (.sl .byte) xs [v1]) (v2 : Value) (ys : (Ty.sl .byte).T) (h2 : Reads w (.sl .byte) ys [v2]) :
    Calls Try.prog 5 #[v0, v1, v2] w fun e w' => e = .returned (.bool true) ∧ Below w.heap.size w w' := by
  obtain ⟨rfl, hs⟩ := one_u32 h0
  obtain ⟨A, c, rfl, _, _, ha⟩ := one_bytes h1
  obtain ⟨B, d, rfl, _, _, hb⟩ := one_bytes h2
  change List UInt8 at xs ys
  change Nat at s
  clear h0 h1 h2
  generalize hn : xs.length = n at ha
  generalize hm : ys.length = m at hb
  clear hn hm
  by_cases hgt : 10000 < n
  · go_enter Try.func5, Try.ntmps5
    go_wp2_with fail
    refine (palive_any _).mono ?_
    rintro e w1 ⟨rfl, b1⟩
    go_wp2
    go_ret
    exact ⟨rfl, b1⟩
  have hle : n ≤ 10000 := by omega
  clear hgt
  by_cases hgt : 10000 < m
  · go_enter Try.func5, Try.ntmps5
    go_wp2_with fail
    refine (palive_any _).mono ?_
    rintro e w1 ⟨rfl, b1⟩
    go_wp2
    go_ret
    exact ⟨rfl, b1⟩
  have hle' : m ≤ 10000 := by omega
  clear hgt
  obtain ⟨i0, hi, hz0, hz1, hz2⟩ := info_parts info_u8
  have e1 := Crc.sum_append xs ys
  have e2 := Crc.over_append s xs ys
  have l1 := Crc.sum_lt xs
  have l2 := Crc.over_lt s xs hs
  go_enter Try.func5, Try.ntmps5
  go_wp2_with fail
  refine (palive_any _).mono ?_
  rintro e w1 ⟨rfl, b1⟩
  have ha1 := ha.below b1
  have hb1 := hb.below b1
  go_wp2_with (first
    | (at_builtin; refine wpList_append_rd _ rfl (.const (.slice none 0 0)) (.tmp 19) _ rfl w.heap.size 5 i0 _ 1 1 Try.underlying26 hi hz0 hz1 hz2 rfl (by omega) (.slice none 0 0) 0 [] rfl (World.ownsRow_nil _ _ _ _) A n c (xs.map byteV) rfl (by simpa using ha1.1) ha1.2 (byteV_one _) (by unfold maxLen; omega) (by omega) b1.size ?_; intro v1 w2 own1 g1 at1; simp only [Nat.zero_add, List.nil_append] at own1; have b2 := Ext.grown b1 g1 (by simp [Value.ownBlock]); have hb2 := hb.below b2)
    | (at_builtin; refine wpList_append_rd _ rfl (.tmp 20) (.tmp 21) _ rfl w.heap.size 5 i0 _ 1 1 Try.underlying26 hi hz0 hz1 hz2 rfl (by omega) v1 n (xs.map byteV) rfl own1 B m d (ys.map byteV) rfl (by simpa using hb2.1) hb2.2 (byteV_one _) (by unfold maxLen; omega) (by omega) b2.size ?_; intro v2 w3 own2 g2 at2; have b3 := Ext.grown b2 g2 (fun k hk => by rcases at1 with h | h <;> rw [h] at hk <;> simp [Value.ownBlock] at hk; have := b1.size; omega); rw [← List.map_append] at own2; obtain ⟨D, dc, hv2, _, hd⟩ := Bs.of_own own2; subst hv2))
  clear own1 own2 at1 at2 g1 g2
  refine (sum_any _ _ _ _ _ hd (by omega)).mono ?_
  rintro e w4 ⟨rfl, b4⟩
  have hd4 := hd.below b4
  have c4 := Ext.trans b3 b4
  go_wp2_with fail
  refine (sum_any _ _ _ xs _ (ha.below c4) (by omega)).mono ?_
  rintro e w5 ⟨rfl, b5⟩
  have hd5 := hd4.below b5
  have c5 := Ext.trans c4 b5
  go_wp2_with fail
  refine (over_any _ _ _ ys (Crc.sum xs) l1 _ (hb.below c5) (by omega)).mono ?_
  rintro e w6 ⟨rfl, b6⟩
  have hd6 := hd5.below b6
  have c6 := Ext.trans c5 b6
  go_wp2_with fail
  refine (over_any _ _ _ _ s hs _ hd6 (by omega)).mono ?_
  rintro e w7 ⟨rfl, b7⟩
  have c7 := Ext.trans c6 b7
  go_wp2_with fail
  refine (over_any _ _ _ xs s hs _ (ha.below c7) (by omega)).mono ?_
  rintro e w8 ⟨rfl, b8⟩
  have c8 := Ext.trans c7 b8
  go_wp2_with fail
  refine (over_any _ _ _ ys (Crc.over s xs) l2 _ (hb.below c8) (by omega)).mono ?_
  rintro e w9 ⟨rfl, b9⟩
  go_wp2
  go_ret
  exact ⟨rfl, Ext.trans c8 b9⟩
end Go.Proofs.Ytnlabkkodilppaa
