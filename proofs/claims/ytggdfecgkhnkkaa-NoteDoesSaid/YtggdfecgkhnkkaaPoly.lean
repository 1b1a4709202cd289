/- poly.Over, poly.Sum: what they compute. -/
import Derived.Test.YtggdfecgkhnkkaaRows
import Derived.Test.YtggdfecgkhnkkaaLib
import Derived.Test.YtggdfecgkhnkkaaCrc
namespace Go.Proofs.Ytggdfecgkhnkkaa
open Go.RowKit

def tabV : Array Value := #[.int .u32 0, .int .u32 274646895, .int .u32 549293790, .int .u32 820201905, .int .u32 1098587580, .int .u32 1361435347, .int .u32 1640403810, .int .u32 1905808397, .int .u32 2197175160, .int .u32 2460548119, .int .u32 2722870694, .int .u32 2987750089, .int .u32 3280807620, .int .u32 3553878443, .int .u32 3811616794, .int .u32 4084100981]
def zero16 : Array Value := #[.int .u32 0, .int .u32 0, .int .u32 0, .int .u32 0, .int .u32 0, .int .u32 0, .int .u32 0, .int .u32 0, .int .u32 0, .int .u32 0, .int .u32 0, .int .u32 0, .int .u32 0, .int .u32 0, .int .u32 0, .int .u32 0]
theorem tabV_at (i : Nat) (h : i < 16) : tabV[i]? = some (.int .u32 (Crc.W i : Int)) := by
  rcases i with _ | _ | _ | _ | _ | _ | _ | _ | _ | _ | _ | _ | _ | _ | _ | _ | i
  all_goals first | rfl | omega
theorem tabV_size : tabV.size = 16 := rfl
/-- the table, where it stands -/
theorem tab_cell (w : World) (t : TypeId) (i : Nat) (h : i < 16) : (w.alloc (.cells tabV t)).cell? ⟨w.heap.size, i, none⟩ = some (.int .u32 (Crc.W i : Int)) := by
  rw [World.cell?_alloc_mark, tabV_at i h]

theorem words_any (w : World) : Calls Try.prog 41 #[] w fun e w' => e = .returned (.agg tabV) ∧ w' = w.alloc (.cells tabV 77) := by
  go_enter Try.func41, Try.ntmps41
  go_wp2_with (first
   | (refine wpList_build rfl 77 _ rfl (by kernel_rfl) ?_; rw [show ((Program.built _ _ _).getD #[]) = tabV by kernel_rfl])
   | (refine wpList_store_row rfl 77 (.tmp 0) (.tmp 1) rfl w.heap.size tabV rfl rfl 77 _ (heap_alloc_new _ _) (by kernel_rfl) (by kernel_rfl) (by kernel_rfl) ?_; rw [setRow_alloc]))
  exact bodyPost_ret (v := .agg tabV) (results_cell_row rfl _ _ w.heap.size 77 tabV (0, 0) _ rfl (heap_alloc_new _ _) Try.underlying77 rfl (by kernel_rfl)) rfl ⟨rfl, rfl⟩

theorem xor_u32 (a b : Nat) (ha : a < 2 ^ 32) (hb : b < 2 ^ 32) : bits .xor .u32 (a : Int) (b : Int) = ((a ^^^ b : Nat) : Int) := by
  have := u32_xor (a : Int) (b : Int) (by omega) (by omega) (by omega) (by omega)
  simpa using this

theorem and_u32 (a : Nat) (ha : a < 2 ^ 32) : bits .and .u32 (a : Int) 15 = ((a &&& 15 : Nat) : Int) := by
  have := u32_and (a : Int) 15 (by omega) (by omega) (by omega) (by omega)
  simpa using this

theorem neg_u32 (s : Nat) (hs : s < 2 ^ 32) : bits .xor .u32 IntKind.u32.max (s : Int) = ((Crc.neg s : Nat) : Int) := by
  have h := xor_u32 Crc.top s Crc.top_lt hs
  have e : IntKind.u32.max = ((Crc.top : Nat) : Int) := by decide
  rw [Crc.neg_def, ← h, ← e]
theorem u32_plain : IntKind.u32.signed = false := rfl

/-- one half byte, as the walk writes it -/
theorem half_u32 (y : Nat) (hy : y < 2 ^ 32) : bits .xor .u32 ((y : Int) / 16) ((Crc.W (y &&& 15) : Nat) : Int) = ((Crc.T y : Nat) : Int) := by
  have h1 := xor_u32 (y >>> 4) (Crc.W (y &&& 15)) (Nat.lt_of_le_of_lt (Nat.shiftRight_le _ _) hy) (Crc.W_lt _)
  have h2 : ((y >>> 4 : Nat) : Int) = (y : Int) / 16 := by rw [Nat.shiftRight_eq_div_pow]; omega
  rw [h2] at h1
  exact h1
theorem tab2 (w : World) (t : TypeId) (y : Nat) : ((w.alloc (.cells tabV t)).alloc (.cells tabV t)).cell? ⟨w.heap.size + 1, y &&& 15, none⟩ = some (.int .u32 (Crc.W (y &&& 15) : Int)) := by
  have := tab_cell (w.alloc (.cells tabV t)) t (y &&& 15) (Crc.and15 y)
  simpa using this

set_option maxHeartbeats 400000 in
theorem over_some (b off n c : Nat) (bs : List UInt8) (s : Nat) (hs : s < 2 ^ 32) (w : World) (hlt : b < w.heap.size) (hl : bs.length = n) (hn : n ≤ 1000000)
    (hc : ∀ j (hj : j < bs.length), w.cell? ⟨b, off + j, none⟩ = some (.int .u8 (bs[j].toNat : Int))) :
    Calls Try.prog 34 #[.int .u32 s, .slice (some ⟨b, off, none⟩) n c] w fun e w' => e = .returned (.int .u32 (Crc.over s bs)) ∧ Below w.heap.size w w' := by
  have hng := neg_u32 s hs
  have hpl := u32_plain
  go_enter Try.func34, Try.ntmps34
  go_wp2_with (first
    | (go_at_call 41; refine (words_any _).mono ?_; rintro e w' ⟨rfl, rfl⟩)
    | (refine wpList_store_row rfl 77 (.tmp 5) (.tmp 8) rfl (w.alloc (.cells tabV 77)).heap.size tabV (by simp [go_sem]) rfl 77 _ (heap_alloc_new _ _) (by kernel_rfl) (by kernel_rfl) (by kernel_rfl) ?_; rw [setRow_alloc]))
  clear hng
  go_loop [0, 13] (fun s' i => ∃ k r : Nat, k ≤ n ∧ r < 2 ^ 32 ∧ r = Crc.run (Crc.neg s) (bs.take k) ∧ i = .int .i64 k ∧ s' = .int .u32 r) (fun _ i => n - (intOf i).toNat)
  case atStart => exact ⟨0, Crc.neg s, Nat.zero_le _, Crc.neg_lt s hs, rfl, rfl, rfl⟩
  case round =>
    obtain ⟨k, r, hk, hr, hrun, rfl, rfl⟩ := hrel
    by_cases hlt2 : k < n
    · have hsn : Crc.run (Crc.neg s) (bs.take (k + 1)) = Crc.step r bs[k] := by
        rw [List.take_succ_eq_append_getElem (by omega), Crc.run_snoc, ← hrun]
      have hck : w.cell? ⟨b, off + k, none⟩ = some (.int .u8 (bs[k].toNat : Int)) := hc k (by omega)
      have hx := bs[k].toNat_lt
      unfold Crc.step at hsn
      generalize bs[k].toNat = x at hsn hck hx
      have hy : r ^^^ x < 2 ^ 32 := Nat.xor_lt_two_pow hr (by omega)
      have ht := Crc.T_lt _ hy
      have hu := Crc.T_lt _ ht
      have h1 := xor_u32 r x hr (by omega)
      have h2 := and_u32 (r ^^^ x) hy
      have h3 := half_u32 (r ^^^ x) hy
      have h4 := and_u32 (Crc.T (r ^^^ x)) ht
      have h5 := half_u32 (Crc.T (r ^^^ x)) ht
      have c1 := tab2 w 77 (r ^^^ x)
      have c2 := tab2 w 77 (Crc.T (r ^^^ x))
      have b1 := Crc.and15 (r ^^^ x)
      have b2 := Crc.and15 (Crc.T (r ^^^ x))
      have H := Lib.hid hsn
      have H2 := Lib.hid hrun
      clear hsn hrun hc
      go_wp2
      go_round
      case rel => exact ⟨k + 1, _, by omega, hu, by rw [H.out], by go_num, rfl⟩
      case measure => simp [intOf]; omega
    · have hng := neg_u32 r hr
      have H2 := Lib.hid hrun
      clear hrun hc
      go_wp2
      go_ret
      refine ⟨?_, ((Below.refl _ _).alloc (Nat.le_refl _) _).alloc (by simp) _⟩
      have h3 := H2.out
      rw [List.take_of_length_le (by omega)] at h3
      unfold Crc.over
      rw [← h3]
      rfl

theorem over_none (A : Option Addr) (c : Nat) (s : Nat) (hs : s < 2 ^ 32) (w : World) :
    Calls Try.prog 34 #[.int .u32 s, .slice A 0 c] w fun e w' => e = .returned (.int .u32 (Crc.over s [])) ∧ Below w.heap.size w w' := by
  have hng := neg_u32 s hs
  have hng2 := neg_u32 _ (Crc.neg_lt s hs)
  have hpl := u32_plain
  go_enter Try.func34, Try.ntmps34
  go_wp2_with (first
    | (go_at_call 41; refine (words_any _).mono ?_; rintro e w' ⟨rfl, rfl⟩)
    | (refine wpList_store_row rfl 77 (.tmp 5) (.tmp 8) rfl (w.alloc (.cells tabV 77)).heap.size tabV (by simp [go_sem]) rfl 77 _ (heap_alloc_new _ _) (by kernel_rfl) (by kernel_rfl) (by kernel_rfl) ?_; rw [setRow_alloc]))
  refine wp_loop_rounds 1 ?_
  rw [rounds_succ]
  go_wp2
  go_ret
  exact ⟨rfl, ((Below.refl _ _).alloc (Nat.le_refl _) _).alloc (by simp) _⟩

/-- poly.Over, at whatever slice. -/
theorem over_any (A : Option Addr) (n c : Nat) (bs : List UInt8) (s : Nat) (hs : s < 2 ^ 32) (w : World) (hb : Bs w A n bs) (hn : n ≤ 1000000) :
    Calls Try.prog 34 #[.int .u32 s, .slice A n c] w fun e w' => e = .returned (.int .u32 (Crc.over s bs)) ∧ Below w.heap.size w w' := by
  by_cases h : n = 0
  · subst h
    have : bs = [] := by simpa using hb.1
    subst this
    exact over_none A c s hs w
  · obtain ⟨b, off, rfl, hlt, hc⟩ := hb.addr (by omega)
    exact over_some b off n c bs s hs w hlt hb.1 hn hc

theorem sum_any (A : Option Addr) (n c : Nat) (bs : List UInt8) (w : World) (hb : Bs w A n bs) (hn : n ≤ 1000000) :
    Calls Try.prog 23 #[.slice A n c] w fun e w' => e = .returned (.int .u32 (Crc.sum bs)) ∧ Below w.heap.size w w' := by
  have h0 := over_any A n c bs 0 (by decide) w hb hn
  go_enter Try.func23, Try.ntmps23
  go_wp2_with (first | (go_at_call 34; refine h0.mono ?_; rintro e w' ⟨rfl, hb'⟩))
  go_ret
  exact ⟨rfl, hb'⟩
end Go.Proofs.Ytggdfecgkhnkkaa
