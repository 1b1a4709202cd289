/- The statement PolyThree of layer 1 (poly): its walk. -/
import Derived.Test.YtnlabkkodilppaaPolyLaws2
import Derived.WalkLawsBesides
import Derived.Deep.RegionHeld3
import Derived.Deep.RegionWith
namespace Go.Proofs.Ytnlabkkodilppaa
open Go.RowKit

def zip3 (n : Nat) (xs ys zs : List UInt8) : List UInt8 := List.zipWith (· ^^^ ·) (List.zipWith (· ^^^ ·) (xs.take n) (ys.take n)) (zs.take n)
/-- the row after so many rounds -/
def row3 (n : Nat) (xs ys zs : List UInt8) (k : Nat) : List UInt8 := (zip3 n xs ys zs).take k ++ List.replicate (n - k) 0
theorem zip3_length (n : Nat) (xs ys zs : List UInt8) (hx : n ≤ xs.length) (hy : n ≤ ys.length) (hz : n ≤ zs.length) : (zip3 n xs ys zs).length = n := by
  simp [zip3]; omega
theorem zip3_at (n : Nat) (xs ys zs : List UInt8) (hx : n ≤ xs.length) (hy : n ≤ ys.length) (hz : n ≤ zs.length) (k : Nat) (hk : k < n) :
    (zip3 n xs ys zs)[k]'(by rw [zip3_length n xs ys zs hx hy hz]; exact hk) = xs[k] ^^^ ys[k] ^^^ zs[k] := by
  simp [zip3]
theorem row3_step (n : Nat) (xs ys zs : List UInt8) (hx : n ≤ xs.length) (hy : n ≤ ys.length) (hz : n ≤ zs.length) (k : Nat) (hk : k < n) :
    (row3 n xs ys zs k).set k (xs[k] ^^^ ys[k] ^^^ zs[k]) = row3 n xs ys zs (k + 1) := by
  have hl := zip3_length n xs ys zs hx hy hz
  unfold row3
  rw [List.set_append_right _ _ (by simp; omega), List.length_take, hl, Nat.min_eq_left (by omega), Nat.sub_self,
    show n - k = (n - (k + 1)) + 1 by omega, List.replicate_succ, List.set_cons_zero, List.take_succ_eq_append_getElem (by omega), zip3_at n xs ys zs hx hy hz k hk]
  simp
theorem sum3 (n : Nat) (xs ys zs : List UInt8) (hx : n ≤ xs.length) (hy : n ≤ ys.length) (hz : n ≤ zs.length) :
    Crc.sum (row3 n xs ys zs n) = Crc.sum (xs.take n) ^^^ Crc.sum (ys.take n) ^^^ Crc.sum (zs.take n) := by
  have hl := zip3_length n xs ys zs hx hy hz
  unfold row3
  rw [List.take_of_length_le (by omega), Nat.sub_self, List.replicate_zero, List.append_nil]
  exact Crc.over_three _ _ _ (by simp; omega) (by simp; omega)
theorem Bs.take {w : World} {A : Option Addr} {n : Nat} {bs : List UInt8} (h : Bs w A n bs) (k : Nat) (hk : k ≤ n) : Bs w A k (bs.take k) := by
  obtain ⟨hl, h⟩ := h
  refine ⟨by rw [List.length_take]; omega, ?_⟩
  rcases h with h | ⟨b, off, hA, hc⟩
  · left
    have : bs = [] := by simpa using h
    subst this
    simp
  · refine .inr ⟨b, off, hA, fun j hj => ?_⟩
    simp at hj
    rw [hc j (by simp; omega), List.map_take, List.getElem?_take, if_pos (by omega)]

set_option maxRecDepth 100000 in
theorem three_many (w : World) (A B C : Option Addr) (n n1 n2 n3 c1 c2 c3 : Nat) (h1 : n ≤ n1) (h2 : n ≤ n2) (h3 : n ≤ n3) (he : n = n1 ∨ n = n2 ∨ n = n3) (hgt : 10000 < n) :
    Calls Try.prog 9 #[.slice A n1 c1, .slice B n2 c2, .slice C n3 c3] w fun e w' => e = .returned (.bool true) ∧ Below w.heap.size w w' := by
  have hmin : ∀ (ts : Array TypeId) (t : TypeId) (W : World), (Builtin.min_ ts t #[.int .i64 (n1 : Int), .int .i64 (n2 : Int), .int .i64 (n3 : Int)]).run Try.prog W = .ok (.int .i64 (n : Int)) W := by
    intro ts t W
    rw [run_min_int3]
    congr 2
    split <;> split <;> omega
  clear h1 h2 h3 he
  go_enter Try.func9, Try.ntmps9
  go_wp2_with fail
  refine (palive_any _).mono ?_
  rintro e w1 ⟨rfl, b1⟩
  go_wp2
  go_ret
  exact ⟨rfl, b1⟩

set_option maxRecDepth 100000 in
theorem three_none (w : World) (A B C : Option Addr) (n1 n2 n3 c1 c2 c3 : Nat) (he : 0 = n1 ∨ 0 = n2 ∨ 0 = n3) (_hm1 : n1 ≤ c1) (_hm2 : n2 ≤ c2) (_hm3 : n3 ≤ c3) :
    Calls Try.prog 9 #[.slice A n1 c1, .slice B n2 c2, .slice C n3 c3] w fun e w' => e = .returned (.bool true) ∧ Below w.heap.size w w' := by
  obtain ⟨i0, hi, hz0, hz1, hz2⟩ := info_parts info_u8
  have hmin : ∀ (ts : Array TypeId) (t : TypeId) (W : World), (Builtin.min_ ts t #[.int .i64 (n1 : Int), .int .i64 (n2 : Int), .int .i64 (n3 : Int)]).run Try.prog W = .ok (.int .i64 0) W := by
    intro ts t W
    rw [run_min_int3]
    congr 2
    split <;> split <;> omega
  have e1 : ((Crc.sum [] : Nat) : Int) = 0 := by
    have e1 : Crc.sum [] = 0 := by decide +kernel
    rw [e1]
    rfl
  clear he
  go_enter Try.func9, Try.ntmps9
  go_wp2_with fail
  refine (palive_any _).mono ?_
  rintro e w1 ⟨rfl, b1⟩
  go_wp2_with (first
    | (refine wpList_make_full w1 rfl (.tmp 22) (.tmp 22) 26 rfl w.heap.size 5 i0 (.int .u8 0) 1 Try.underlying26 hi hz0 hz1 .i64 .i64 0 0 0 rfl rfl rfl rfl (by omega) (by omega) b1.size ?_; intro w2 own2 g2; have b2 := Ext.grown b1 g2 (by simp)))
  refine wp_loop_rounds 1 ?_
  rw [rounds_succ]
  go_wp2_with fail
  go_region_held3 (fun w' => Below w.heap.size w w') (first | exact b2.drew | (refine Ext.trans ?_ b3; assumption)) (first | (go_at_call 11; refine (sum_any _ _ _ [] _ (Bs.nil _ _) (by omega)).mono ?_; rintro e w3 ⟨rfl, b3⟩))
  go_wp2
  go_ret
  exact ⟨rfl, by assumption⟩

set_option maxRecDepth 100000 in
theorem three_some (w : World) (ba oa bb ob bc oc n n1 n2 n3 c1 c2 c3 : Nat) (h1 : n ≤ n1) (h2 : n ≤ n2) (h3 : n ≤ n3) (he : n = n1 ∨ n = n2 ∨ n = n3) (hle : n ≤ 10000) (hm1 : n1 ≤ c1) (hm2 : n2 ≤ c2) (hm3 : n3 ≤ c3)
    (hn0 : 0 < n) (xs ys zs : List UInt8) (ha : Bs w (some ⟨ba, oa, none⟩) n1 xs) (hb : Bs w (some ⟨bb, ob, none⟩) n2 ys) (hc : Bs w (some ⟨bc, oc, none⟩) n3 zs) :
    Calls Try.prog 9 #[.slice (some ⟨ba, oa, none⟩) n1 c1, .slice (some ⟨bb, ob, none⟩) n2 c2, .slice (some ⟨bc, oc, none⟩) n3 c3] w fun e w' => e = .returned (.bool true) ∧ Below w.heap.size w w' := by
  obtain ⟨i0, hi, hz0, hz1, hz2⟩ := info_parts info_u8
  have hmin : ∀ (ts : Array TypeId) (t : TypeId) (W : World), (Builtin.min_ ts t #[.int .i64 (n1 : Int), .int .i64 (n2 : Int), .int .i64 (n3 : Int)]).run Try.prog W = .ok (.int .i64 (n : Int)) W := by
    intro ts t W
    rw [run_min_int3]
    congr 2
    split <;> split <;> omega
  clear he
  have lx : n ≤ xs.length := by rw [ha.1]; exact h1
  have ly : n ≤ ys.length := by rw [hb.1]; exact h2
  have lz : n ≤ zs.length := by rw [hc.1]; exact h3
  have hs3 := sum3 n xs ys zs lx ly lz
  have x1 := xor_u32 (Crc.sum (xs.take n)) (Crc.sum (ys.take n)) (Crc.sum_lt _) (Crc.sum_lt _)
  have x2 := xor_u32 (Crc.sum (xs.take n) ^^^ Crc.sum (ys.take n)) (Crc.sum (zs.take n)) (Nat.xor_lt_two_pow (Crc.sum_lt _) (Crc.sum_lt _)) (Crc.sum_lt _)
  rw [← hs3] at x2
  clear hs3
  have X1 := Lib.hid x1
  have X2 := Lib.hid x2
  clear x1 x2
  go_enter Try.func9, Try.ntmps9
  go_wp2_with fail
  refine (palive_any _).mono ?_
  rintro e w1 ⟨rfl, b1⟩
  go_wp2_with (first
    | (refine wpList_make_full w1 rfl (.tmp 22) (.tmp 22) 26 rfl w.heap.size 5 i0 (.int .u8 0) 1 Try.underlying26 hi hz0 hz1 .i64 .i64 n n n rfl rfl rfl rfl (by rw [hz2]; omega) (by unfold maxLen; omega) b1.size ?_; intro w2 own2 g2; have b2 := Ext.grown b1 g2 (by simp)))
  have hg0 : w.heap.size ≤ w1.heap.size := b1.size
  generalize w1.heap.size = g at own2 hg0
  have own0 : w2.ownsRow w.heap.size 5 1 (.slice (some ⟨g, 0, none⟩) n n) n ((row3 n xs ys zs 0).map byteV) := by
    have e : (madeCells (Value.int .u8 0).cells (n * 1)).toList = (row3 n xs ys zs 0).map byteV := by
      show (madeCells #[Value.int .u8 0] (n * 1)).toList = _
      rw [toList_madeCells_one]
      simp [row3, byteV]
    rw [← e]
    exact own2
  clear own2 hmin g2
  obtain ⟨_, _, hA, _, ca⟩ := ha.addr (by omega)
  obtain ⟨_, _, hB, _, cb⟩ := hb.addr (by omega)
  obtain ⟨_, _, hC, _, cc⟩ := hc.addr (by omega)
  simp only [Option.some.injEq, Addr.mk.injEq, and_true] at hA hB hC
  obtain ⟨rfl, rfl⟩ := hA
  obtain ⟨rfl, rfl⟩ := hB
  obtain ⟨rfl, rfl⟩ := hC
  have CA := Lib.hid ca
  have CB := Lib.hid cb
  have CC := Lib.hid cc
  clear ca cb cc
  go_loopw [10] (fun i wr => ∃ k : Nat, k ≤ n ∧ i = .int .i64 k ∧ wr.ownsRow w.heap.size 5 1 (.slice (some ⟨g, 0, none⟩) n n) n ((row3 n xs ys zs k).map byteV) ∧ Below w.heap.size w wr) (fun i _ => n - (intOf i).toNat)
  case atStart => exact ⟨0, by omega, rfl, own0, b2⟩
  case round =>
    obtain ⟨k, hk, rfl, own, bw⟩ := hrel
    by_cases hkn : k < n
    · have pa := CA.out k (by omega)
      have pb := CB.out k (by omega)
      have pc := CC.out k (by omega)
      have qa := (bw.cell (p := _) (block_lt_of_cell pa)).trans pa
      have qb := (bw.cell (p := _) (block_lt_of_cell pb)).trans pb
      have qc := (bw.cell (p := _) (block_lt_of_cell pc)).trans pc
      have st := own.stored k (byteV (xs[k] ^^^ ys[k] ^^^ zs[k]))
      rw [← List.map_set, row3_step n xs ys zs lx ly lz k hkn] at st
      have OWN := Lib.hid st.1
      have hl : (row3 n xs ys zs k).length = n := by unfold row3; rw [List.length_append, List.length_take, zip3_length n xs ys zs lx ly lz, List.length_replicate]; omega
      obtain ⟨u, cz⟩ : ∃ u, wr.cell? ⟨g, k, none⟩ = some u := ⟨_, by rw [own.cellAt k (by omega), List.getElem?_eq_getElem (by rw [List.length_map]; omega)]⟩
      have fz := own.frozenAt k
      clear pa pb pc st own own0
      have hx1 := u8_xor_b xs[k] ys[k]
      have hx2 := u8_xor_b (xs[k] ^^^ ys[k]) zs[k]
      generalize xs[k] ^^^ ys[k] ^^^ zs[k] = r at OWN hx2
      generalize xs[k] ^^^ ys[k] = q at hx1 hx2
      go_wp2
      go_region
      go_wp2
      go_roundw
      case rel => exact ⟨k + 1, by omega, by go_num, OWN.out.drew, (bw.setCell hg0 _).drew⟩
      case measure => simp [intOf]; omega
    · have hk' : k = n := by omega
      rw [hk'] at own
      have hd := Bs.of_ownS own
      clear hk' own own0
      go_wp2_with fail
      have i1 : (n : Int) ≤ (c1 : Int) := by omega
      have i2 : (n : Int) ≤ (c2 : Int) := by omega
      have i3 : (n : Int) ≤ (c3 : Int) := by omega
      have i4 : (0 : Int) ≤ (n : Int) := by omega
      have hdr : ∀ X : World, Bs X (some ⟨g, 0, none⟩) n (row3 n xs ys zs n) → Bs X.drew (some ⟨g, 0, none⟩) n (row3 n xs ys zs n) := fun X h => h
      go_region_held3 (fun w' => Below w.heap.size w w' ∧ Bs w' (some ⟨g, 0, none⟩) n (row3 n xs ys zs n)) (first | exact ⟨bw.drew, hdr _ hd⟩ | exact ⟨Ext.trans (And.left (by assumption)) b3, Bs.below (And.right (by assumption)) b3⟩)
        (first
          | (go_at_call_of 11 (Value.slice (some (⟨g, 0, none⟩ : Addr)) n n); refine (sum_any _ _ _ (row3 n xs ys zs n) _ (And.right (by assumption)) (by omega)).mono ?_; rintro e w3 ⟨rfl, b3⟩)
          | (go_at_call_of 11 (Value.slice (some (⟨ba, oa, none⟩ : Addr)) n c1); refine (sum_any _ _ _ (xs.take n) _ ((ha.take n h1).below (And.left (by assumption))) (by omega)).mono ?_; rintro e w3 ⟨rfl, b3⟩)
          | (go_at_call_of 11 (Value.slice (some (⟨bb, ob, none⟩ : Addr)) n c2); refine (sum_any _ _ _ (ys.take n) _ ((hb.take n h2).below (And.left (by assumption))) (by omega)).mono ?_; rintro e w3 ⟨rfl, b3⟩)
          | (go_at_call_of 11 (Value.slice (some (⟨bc, oc, none⟩ : Addr)) n c3); refine (sum_any _ _ _ (zs.take n) _ ((hc.take n h3).below (And.left (by assumption))) (by omega)).mono ?_; rintro e w3 ⟨rfl, b3⟩))
      have x1 := X1.out
      have x2 := X2.out
      go_wp2
      go_ret
      refine ⟨?_, And.left (by assumption)⟩
      have fin : ((Crc.sum (row3 n xs ys zs n) : Nat) : Int) == bits .xor .u32 (bits .xor .u32 ((Crc.sum (xs.take n) : Nat) : Int) ((Crc.sum (ys.take n) : Nat) : Int)) ((Crc.sum (zs.take n) : Nat) : Int) := by
        rw [x1, x2]
        simp
      exact congrArg (fun b => Ending.returned (Value.bool b)) fin

theorem polyThree_walk (w : World) (v0 : Value) (xs : (Ty.sl .byte).T) (h0 : Reads w (.sl .byte) xs [v0]) (v1 : Value) (ys : (Ty.sl .byte).T) (h1 : Reads w (.sl .byte) ys [v1]) (v2 : Value) (zs : (Ty.sl .byte).T) (h2 : Reads w (.sl .byte) zs [v2]) :
    Calls Try.prog 9 #[v0, v1, v2] w fun e w' => e = .returned (.bool true) ∧ Below w.heap.size w w' := by
  obtain ⟨A, c1, rfl, hc1, _, ha⟩ := one_bytes h0
  obtain ⟨B, c2, rfl, hc2, _, hb⟩ := one_bytes h1
  obtain ⟨C, c3, rfl, hc3, _, hc⟩ := one_bytes h2
  change List UInt8 at xs ys zs
  clear h0 h1 h2
  generalize hn1 : xs.length = n1 at ha hc1
  generalize hn2 : ys.length = n2 at hb hc2
  generalize hn3 : zs.length = n3 at hc hc3
  clear hn1 hn2 hn3
  obtain ⟨n, hn⟩ : ∃ n, n = min n1 (min n2 n3) := ⟨_, rfl⟩
  by_cases hgt : 10000 < n
  · exact three_many w A B C n n1 n2 n3 c1 c2 c3 (by omega) (by omega) (by omega) (by omega) hgt
  · by_cases h00 : n = 0
    · exact three_none w A B C n1 n2 n3 c1 c2 c3 (by omega) hc1 hc2 hc3
    · obtain ⟨ba, oa, rfl, _, _⟩ := ha.addr (by omega)
      obtain ⟨bb, ob, rfl, _, _⟩ := hb.addr (by omega)
      obtain ⟨bc, oc, rfl, _, _⟩ := hc.addr (by omega)
      exact three_some w ba oa bb ob bc oc n n1 n2 n3 c1 c2 c3 (by omega) (by omega) (by omega) (by omega) (by omega) hc1 hc2 hc3 (by omega) xs ys zs ha hb hc
end Go.Proofs.Ytnlabkkodilppaa
