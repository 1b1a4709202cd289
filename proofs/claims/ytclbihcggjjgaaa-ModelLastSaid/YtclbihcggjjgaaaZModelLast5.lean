/- What this claim needs of my texts, merged (part 5). -/
import Derived.Test.YtclbihcggjjgaaaZModelLast4
/- Layer 30 (model): 'told'. -/
namespace Go.Proofs.Ytclbihcggjjgaaa
open Go Go.RowKit
set_option linter.unusedSimpArgs false
set_option linter.unusedVariables false

set_option maxRecDepth 100000 in
set_option maxHeartbeats 2000000 in
/-- a read, or what has no blocks -/
theorem told_read (By : Nat → Prop) (g cap : Nat) (vs : List (List UInt8)) (ki : UInt8) (a y : Nat) (D : Option Addr) (dc : Nat) (bs : List UInt8) (E : Option Addr) (q : Nat) (dat : List UInt8) (rn er : Int) (w : World)
    (h1 : 0 < y → ((ki.toNat : Nat) : Int) = 1) (hN : NowS w By g vs) (hBy : ∀ b, By b → b < w.heap.size) (h128 : ∀ v ∈ vs, v.length = 128) (hy : y ≤ 8) (hf : a + y ≤ vs.length) (hvl : vs.length ≤ 1000) (hE : Bs w E dat.length dat) :
    Calls Try.prog 38 #[.slice (some ⟨g, 0, none⟩) vs.length cap, .agg #[.int .u8 (ki.toNat : Int), .int .i64 (a : Int), .int .i64 (y : Int), .slice D bs.length dc], .agg #[.int .i64 rn, .int .i64 er, .slice E dat.length q, .int .i64 (y : Int)]] w fun e w' => e = .returned (.bool (dat == tellS vs a y)) ∧ Below w.heap.size w w' := by
  have P4 := BoxOf.alloc (BoxOf.new w #[.int .u8 (ki.toNat : Int), .int .i64 (a : Int), .int .i64 (y : Int), .slice D bs.length dc] 58) (.cells #[.int .i64 rn, .int .i64 er, .slice E dat.length q, .int .i64 (y : Int)] 53)
  have P5 := BoxOf.new' (w.alloc (.cells #[.int .u8 (ki.toNat : Int), .int .i64 (a : Int), .int .i64 (y : Int), .slice D bs.length dc] 58)) (w.heap.size + 1) #[.int .i64 rn, .int .i64 er, .slice E dat.length q, .int .i64 (y : Int)] 53 (by simp)
  have t0 := Ext.alloc (Ext.alloc (Below.refl w.heap.size w) (.cells #[.int .u8 (ki.toNat : Int), .int .i64 (a : Int), .int .i64 (y : Int), .slice D bs.length dc] 58)) (.cells #[.int .i64 rn, .int .i64 er, .slice E dat.length q, .int .i64 (y : Int)] 53)
  have HN := Lib.hid (hN.below t0 hN.lt hBy)
  have HE := Lib.hid (hE.below t0)
  have HBY := Lib.hid hBy
  have H128 := Lib.hid h128
  have HK := Lib.hid h1
  have HF := Lib.hid hf
  have HVL := Lib.hid hvl
  have HY := Lib.hid hy
  have HGL := Lib.hid hN.lt
  clear hN hE hBy h128 h1 hf hvl hy
  go_enter Try.func38, Try.ntmps38
  go_upto_region 1 with fail
  generalize (w.alloc (.cells #[.int .u8 (ki.toNat : Int), .int .i64 (a : Int), .int .i64 (y : Int), .slice D bs.length dc] 58)).alloc (.cells #[.int .i64 rn, .int .i64 er, .slice E dat.length q, .int .i64 (y : Int)] 53) = W at *
  have hwW : Hid (w.heap.size ≤ W.heap.size) := t0.size
  have x4 := P4.cell
  have x5 := P5.cell
  have hne : (((y : Nat) : Int) != ((y : Nat) : Int)) = false := by simp
  go_wp2
  clear x4 x5 hne
  go_loopw [7, 8] (fun v i wr => ∃ j : Nat, j ≤ y ∧ i = .int .i64 j ∧ Below W.heap.size W wr ∧ OB wr W.heap.size v (128 * j) (tellS vs a j)) (fun _ i _ => y - (intOf i).toNat)
  case atStart => exact ⟨0, by omega, rfl, Below.refl _ _, OB.nil _ _⟩
  case round =>
    obtain ⟨j, hj, rfl, b1, own⟩ := hrel
    have x4 := (P4.next b1).cell
    have x5 := (P5.next b1).cell
    by_cases hlt : j < y
    · have hk := HK.out (by omega)
      have hb1 : (((ki.toNat : Nat) : Int) == 1) = true := by rw [hk]; rfl
      have hNr := HN.out.below b1 (by have := HN.out.lt; omega) (fun b hb => by have := HBY.out b hb; have := hwW.out; omega)
      have haj : a + j < vs.length := by have := HF.out; omega
      obtain ⟨A, c, m1, m2⟩ := hNr.at haj
      have hvL : (vs[a + j]).length = 128 := H128.out _ (List.getElem_mem _)
      have HT : Hid (tellS vs a (j + 1) = tellS vs a j ++ vs[a + j]) := by
        show tellS vs a j ++ vs.getD (a + j) [] = _
        rw [List.getD_eq_getElem?_getD, List.getElem?_eq_getElem haj]
        rfl
      generalize vs[a + j] = v at *
      have hwa : wrap64 ((a : Int) + (j : Int)) = ((a + j : Nat) : Int) := by rw [IntWalk.wrap64_in _ (by have := HVL.out; omega)]; omega
      have HWJ := next_wrap (show y ≤ maxLen by have := HY.out; unfold maxLen; omega) hlt
      have HBS := Lib.hid m2.bytes_bs
      have HLJ := Lib.hid hlt
      have HJ8 : Hid (128 * j + v.length ≤ 1000000) := by show _ ≤ _; have := HY.out; omega
      have HVN := Lib.hid hvL
      have HOWN := Lib.hid own
      have HB1 := Lib.hid b1
      clear hk hNr m2 hvL hj own b1
      go_wp2_with (refine wpList_append_bytes rfl (.tmp 38) (.tmp 45) rfl W.heap.size _ (128 * j) (tellS vs a j) rfl HOWN.out A v.length c v rfl HBS.out HJ8.out HB1.out.size ?_; intro v7 w7 own7 b7; have HO7 := Lib.hid own7; have HB7 := Lib.hid (Below.trans HB1.out b7); clear own7 b7)
      go_roundw
      case rel => exact ⟨j + 1, HLJ.out, (by first | exact round_same HWJ | go_num), HB7.out, by rw [HT.out, show 128 * (j + 1) = 128 * j + v.length by rw [HVN.out]; omega]; exact HO7.out⟩
      case measure => first | exact round_less HWJ HLJ.out | (have h := HLJ.out; simp [intOf]; omega)
    · have hje : j = y := by omega
      subst hje
      obtain ⟨A7, c7, rfl, hb7⟩ := own.bs
      have s1 := run_string_bs (P := Try.prog) q 29 9 5 Try.underlying29 Try.underlying5 Try.underlying9 (HE.out.below b1)
      have s2 := run_string_bs (P := Try.prog) c7 29 9 5 Try.underlying29 Try.underlying5 Try.underlying9 hb7
      have HB : Hid (Below w.heap.size w wr) := Below.trans t0 (b1.mono hwW.out)
      clear own b1 hb7
      go_wp2
      go_ret
      exact ⟨rfl, HB.out⟩

/-- what has come to stand: blocks of the old set, and new ones -/
def ToldIs (By : Nat → Prop) (w : World) (g : Nat) (vs vs' : List (List UInt8)) (b : Bool) (e : Ending) (w' : World) : Prop :=
  e = .returned (.bool b) ∧ w.grownBy w' (some g) ∧ ∃ By' : Nat → Prop, (∀ b, By' b → By b ∨ NewB w.heap.size w' b) ∧ NowS w' By' g vs'
theorem grown_drew {w w' : World} {r : Option Nat} (h : w.grownBy w' r) : w.grownBy w'.drew r := ⟨h.os, h.tape, h.output, h.size, h.block⟩
theorem grown_two {w w' w'' : World} {r : Option Nat} (h : w.grownBy w' r) (h' : w'.grownBy w'' r) : w.grownBy w'' r :=
  ⟨h'.os.trans h.os, h'.tape.trans h.tape, h'.output.trans h.output, Nat.le_trans h.size h'.size, fun k hk hr => (h'.block k (Nat.lt_of_lt_of_le hk h.size) hr).trans (h.block k hk hr)⟩
theorem newB_set {base : Nat} {w : World} {b : Nat} (h : NewB base w b) (p : Addr) (v : Value) : NewB base (w.setCell p v) b := ⟨h.1, by rw [msize]; exact h.2.1, h.2.2.set _ _⟩
theorem newB_below {base : Nat} {w w' : World} {b : Nat} (h : NewB base w b) (hb : Below w.heap.size w w') (_ : base ≤ w.heap.size) : NewB base w' b := newB_next h hb.size (hb.block b h.2.1)
theorem bs_grown {w W w' : World} {E : Option Addr} {n g : Nat} {bs : List UInt8} (h : Bs w E n bs) (hE : ∀ b o, E = some ⟨b, o, none⟩ → bs = [] ∨ b ≠ g) (hg : W.grownBy w' (some g)) (hW : Below w.heap.size w W) : Bs w' E n bs := by
  have h1 := h.below hW
  refine ⟨h1.1, ?_⟩
  rcases h1.2 with h2 | ⟨b, o, e, h2⟩
  · exact .inl h2
  · refine .inr ⟨b, o, e, fun j hj => ?_⟩
    have h3 := h2 j hj
    rw [List.getElem?_eq_getElem hj] at h3 ⊢
    exact grown_cell hg ((hE b o e).resolve_left (fun h0 => by rw [h0] at hj; exact absurd hj (Nat.not_lt_zero _))) h3
theorem Bs.nil_ (w : World) : Bs w none 0 [] := ⟨rfl, .inl rfl⟩
theorem by_lt {By By' : Nat → Prop} {w w' : World} (hBy : ∀ b, By b → b < w.heap.size) (h : ∀ b, By' b → By b ∨ NewB w.heap.size w' b) (hs : w.heap.size ≤ w'.heap.size) : ∀ b, By' b → b < w'.heap.size := by
  intro b hb
  rcases h b hb with h1 | h1
  · exact Nat.lt_of_lt_of_le (hBy b h1) hs
  · exact h1.2.1
set_option maxRecDepth 100000 in
set_option maxHeartbeats 4000000 in
/-- a discard -/
theorem told_cut (By : Nat → Prop) (g cap : Nat) (vs : List (List UInt8)) (ki : UInt8) (a y : Nat) (D : Option Addr) (dc : Nat) (bs : List UInt8) (E : Option Addr) (q : Nat) (dat : List UInt8) (rn er : Int) (w : World)
    (h1 : ((ki.toNat : Nat) : Int) = 5) (hN : NowS w By g vs) (hBy : ∀ b, By b → b < w.heap.size) (hy : y ≤ 8) (hf : a + y ≤ vs.length) (hvl : vs.length ≤ 1000) (hE : Bs w E dat.length dat) (hEg : ∀ b o, E = some ⟨b, o, none⟩ → dat = [] ∨ b ≠ g) :
    Calls Try.prog 38 #[.slice (some ⟨g, 0, none⟩) vs.length cap, .agg #[.int .u8 (ki.toNat : Int), .int .i64 (a : Int), .int .i64 (y : Int), .slice D bs.length dc], .agg #[.int .i64 rn, .int .i64 er, .slice E dat.length q, .int .i64 (y : Int)]] w fun e w' => ToldIs By w g vs (toldL 5 bs a vs y) (dat == []) e w' := by
  have P4 := BoxOf.alloc (BoxOf.new w #[.int .u8 (ki.toNat : Int), .int .i64 (a : Int), .int .i64 (y : Int), .slice D bs.length dc] 58) (.cells #[.int .i64 rn, .int .i64 er, .slice E dat.length q, .int .i64 (y : Int)] 53)
  have P5 := BoxOf.new' (w.alloc (.cells #[.int .u8 (ki.toNat : Int), .int .i64 (a : Int), .int .i64 (y : Int), .slice D bs.length dc] 58)) (w.heap.size + 1) #[.int .i64 rn, .int .i64 er, .slice E dat.length q, .int .i64 (y : Int)] 53 (by simp)
  have t0 := Ext.alloc (Ext.alloc (Below.refl w.heap.size w) (.cells #[.int .u8 (ki.toNat : Int), .int .i64 (a : Int), .int .i64 (y : Int), .slice D bs.length dc] 58)) (.cells #[.int .i64 rn, .int .i64 er, .slice E dat.length q, .int .i64 (y : Int)] 53)
  have HN := Lib.hid (hN.below t0 hN.lt hBy)
  have HG0 : Hid (w.grownBy ((w.alloc (.cells #[.int .u8 (ki.toNat : Int), .int .i64 (a : Int), .int .i64 (y : Int), .slice D bs.length dc] 58)).alloc (.cells #[.int .i64 rn, .int .i64 er, .slice E dat.length q, .int .i64 (y : Int)] 53)) (some g)) := grown_below (grown_refl w _) t0 (Nat.le_refl _)
  have HE := Lib.hid hE
  have HEG := Lib.hid hEg
  have HBY := Lib.hid hBy
  have HF := Lib.hid hf
  have HVL := Lib.hid hvl
  have HY := Lib.hid hy
  have HGL := Lib.hid hN.lt
  have hk1 : (((ki.toNat : Nat) : Int) == 1) = false := by rw [h1]; rfl
  have hk5 : (((ki.toNat : Nat) : Int) == 5) = true := by rw [h1]; rfl
  clear hN hE hBy hf hvl hy h1 hEg
  go_enter Try.func38, Try.ntmps38
  go_upto_region 1 with fail
  have hne : (((y : Nat) : Int) != ((y : Nat) : Int)) = false := by simp
  generalize (w.alloc (.cells #[.int .u8 (ki.toNat : Int), .int .i64 (a : Int), .int .i64 (y : Int), .slice D bs.length dc] 58)).alloc (.cells #[.int .i64 rn, .int .i64 er, .slice E dat.length q, .int .i64 (y : Int)] 53) = W at *
  have hwW : Hid (w.heap.size ≤ W.heap.size) := t0.size
  have hwW0 : Hid (w.heap.size < W.heap.size) := P4.lt
  have hwW1 : Hid (w.heap.size + 1 < W.heap.size) := P5.lt
  have x4 := P4.cell
  have x5 := P5.cell
  go_wp2
  clear x4 x5 hne
  go_loopw [7, 8] (fun v i wr => ∃ (j : Nat) (By' : Nat → Prop), j ≤ y ∧ v = .slice none 0 0 ∧ i = .int .i64 j ∧ W.grownBy wr (some g) ∧ Hid (∀ b, By' b → By b ∨ NewB w.heap.size wr b) ∧ NowS wr By' g (toldL 5 bs a vs j)) (fun _ i _ => y - (intOf i).toNat)
  case atStart => exact ⟨0, By, by omega, rfl, rfl, grown_refl _ _, fun b hb => Or.inl hb, HN.out⟩
  case round =>
    obtain ⟨j, By', hj, rfl, rfl, g1, HB', nw⟩ := hrel
    have PR4 : BoxOf wr w.heap.size #[.int .u8 (ki.toNat : Int), .int .i64 (a : Int), .int .i64 (y : Int), .slice D bs.length dc] 58 := P4.grown g1 (fun e => by have := HGL.out; injection e with e; omega)
    have PR5 : BoxOf wr (w.heap.size + 1) #[.int .i64 rn, .int .i64 er, .slice E dat.length q, .int .i64 (y : Int)] 53 := P5.grown g1 (fun e => by have := HGL.out; injection e with e; omega)
    have x4 := PR4.cell
    by_cases hlt : j < y
    · obtain ⟨n, hn⟩ : ∃ n, n = a + j := ⟨_, rfl⟩
      have hwb : IntKind.i64.wrap ((a : Int) + (j : Int)) = (n : Int) := by rw [i64_fit (by have := HVL.out; have := HF.out; omega)]; omega
      have hal : n < vs.length := by have := HF.out; omega
      have haj : n < (toldL 5 bs a vs j).length := by rw [toldL_len]; exact hal
      have HN0 := Lib.hid hn
      have HWJ := next_wrap (show y ≤ maxLen by have := HY.out; unfold maxLen; omega) hlt
      have HLJ := Lib.hid hlt
      obtain ⟨A0, l0, c0, m1⟩ : ∃ A0 l0 c0, wr.cell? ⟨g, n, none⟩ = some (.slice A0 l0 c0) := by
        obtain ⟨A0, c0, m1, _⟩ := nw.at haj
        exact ⟨_, _, _, m1⟩
      have fz := nw.free n
      have HNW := Lib.hid nw
      have HG1 := Lib.hid g1
      have HAJ := Lib.hid haj
      clear hj nw g1 haj hlt hn
      go_upto_region 12 with fail
      have HPR4 := Lib.hid PR4
      have HGW := HGL
      have HS : Hid (∀ w', wr.grownBy w' (some g) → (wr.grownBy w' (some g) ∧ (∀ o, w'.cell? ⟨w.heap.size, o, none⟩ = #[.int .u8 (ki.toNat : Int), .int .i64 (a : Int), .int .i64 (y : Int), .slice D bs.length dc].toList[o]?))) := fun w' b => ⟨b, (HPR4.out.grown b (fun e => by have := HGL.out; injection e with e; omega)).cell⟩
      refine wp_region_held_drew (S := fun w' => wr.grownBy w' (some g) ∧ (∀ o, w'.cell? ⟨w.heap.size, o, none⟩ = #[.int .u8 (ki.toNat : Int), .int .i64 (a : Int), .int .i64 (y : Int), .slice D bs.length dc].toList[o]?)) (by kernel_rfl) (HS.out _ (grown_drew (grown_refl _ _))) (fun hS => ?_)
      refine wpAnyH_take (i := 0) (oi := _) (v := ?_) rfl (by kernel_rfl) (by kernel_rfl) (by kernel_rfl) (fun _ _ _ h => h) (Or.inl ⟨by rfl, ?_⟩) hS ?_
      rotate_left
      · (intro w hSw; (try dsimp only at hSw); go_simp; (try with_reducible rfl))
      rotate_left
      simp only [Act.put, List.getElem_toArray, List.getElem_cons_zero, List.getElem_cons_succ, List.setIfInBounds_toArray, List.set_cons_zero, List.set_cons_succ]
      refine wpAnyH_take (i := 1) (oi := _) (v := ?_) rfl (by kernel_rfl) (by kernel_rfl) (by kernel_rfl) (fun _ _ _ h => h) (Or.inl ⟨by rfl, ?_⟩) hS ?_
      rotate_left
      · (intro w hSw; (try dsimp only at hSw); go_simp; (try with_reducible rfl))
      rotate_left
      simp only [Act.put, List.getElem_toArray, List.getElem_cons_zero, List.getElem_cons_succ, List.setIfInBounds_toArray, List.set_cons_zero, List.set_cons_succ]
      refine wpAnyH_take (i := 2) (oi := _) (v := ?_) rfl (by kernel_rfl) (by kernel_rfl) (by kernel_rfl) (fun _ _ _ h => h) (Or.inl ⟨by rfl, ?_⟩) hS ?_
      rotate_left
      · (intro w hSw; (try dsimp only at hSw); go_simp; (try with_reducible rfl))
      rotate_left
      simp only [Act.put, List.getElem_toArray, List.getElem_cons_zero, List.getElem_cons_succ, List.setIfInBounds_toArray, List.set_cons_zero, List.set_cons_succ]
      refine wpAnyH_take (i := 3) (oi := _) (v := ?_) rfl (by kernel_rfl) (by kernel_rfl) (by kernel_rfl) (fun _ _ _ h => h) (Or.inl ⟨by rfl, ?_⟩) hS ?_
      rotate_left
      · (intro w hSw; (try dsimp only at hSw); go_simp; (try with_reducible rfl))
      rotate_left
      simp only [Act.put, List.getElem_toArray, List.getElem_cons_zero, List.getElem_cons_succ, List.setIfInBounds_toArray, List.set_cons_zero, List.set_cons_succ]
      refine wpAnyH_take (i := 4) (oi := _) (v := ?_) rfl (by kernel_rfl) (by kernel_rfl) (by kernel_rfl) (fun _ _ _ h => h) (Or.inl ⟨by rfl, ?_⟩) hS ?_
      rotate_left
      · (intro w hSw; (try dsimp only at hSw); go_simp; (try with_reducible rfl))
      rotate_left
      simp only [Act.put, List.getElem_toArray, List.getElem_cons_zero, List.getElem_cons_succ, List.setIfInBounds_toArray, List.set_cons_zero, List.set_cons_succ]
      refine wpAnyH_ready (rs := [5]) (by kernel_rfl) (by simp) ?_
      refine AllReadyH.cons rfl (fun K hK => ?_) AllReadyH.nil
      rw [if_pos (by rfl)]
      go_simp
      refine (full_any 0 _).mono ?_
      rintro e w3 ⟨⟨g3, rfl, r3⟩, k3⟩
      refine hK.out _ _ (HS.out _ (grown_below (grown_drew (grown_refl _ _)) k3 (Nat.le_refl _))) (fun hS' => ?_)
      have B3 : Hid (Below wr.heap.size wr w3) := Ext.trans (Ext.drew (Below.refl _ _)) k3
      have R3 := Lib.hid r3
      clear hK K hS k3 r3
      have hS := hS'
      clear hS'
      try simp only [Act.put, List.getElem_toArray, List.getElem_cons_zero, List.getElem_cons_succ, List.setIfInBounds_toArray, List.set_cons_zero, List.set_cons_succ]
      refine wpAnyH_take (i := 6) (oi := _) (v := ?_) rfl (by kernel_rfl) (by kernel_rfl) (by kernel_rfl) (fun _ _ _ h => h) (Or.inl ⟨by rfl, ?_⟩) hS ?_
      rotate_left
      · (intro w hSw; (try dsimp only at hSw); go_simp; (try with_reducible rfl))
      rotate_left
      simp only [Act.put, List.getElem_toArray, List.getElem_cons_zero, List.getElem_cons_succ, List.setIfInBounds_toArray, List.set_cons_zero, List.set_cons_succ]
      have zw : w3.cell? ⟨g, n, none⟩ = some (.slice A0 l0 c0) := (B3.out.cell (block_lt_of_cell m1)).trans m1
      have fw : w3.frozen? ⟨g, n, none⟩ = false := (B3.out.frozen (p := ⟨g, n, none⟩) (block_lt_of_cell m1)).trans fz
      refine wpAnyH_ready (rs := [7]) (by kernel_rfl) (by simp) ?_
      refine AllReadyH.cons rfl (fun K hK => ?_) AllReadyH.nil
      rw [if_pos (by rfl)]
      go_simp
      refine hK.out _ _ (HS.out _ (grown_setCell (grown_below (grown_refl _ _) B3.out (Nat.le_refl _)) _ _)) (fun hS' => ?_)
      clear hK K hS
      have hS := hS'
      clear hS'
      try simp only [Act.put, List.getElem_toArray, List.getElem_cons_zero, List.getElem_cons_succ, List.setIfInBounds_toArray, List.set_cons_zero, List.set_cons_succ]
      refine wpAnyH_done (by kernel_rfl) ?_ _
      have hl0 : (fullL 0).length = 128 := fullL_len 0
      have haj := HAJ.out
      have HG2 : Hid (W.grownBy (w3.setCell ⟨g, n, none⟩ (.slice (some ⟨g3, 0, none⟩) 128 128)) (some g)) := grown_setCell (grown_below HG1.out B3.out HG1.out.size) _ _
      have HNW2 : Hid (NowS (w3.setCell ⟨g, n, none⟩ (.slice (some ⟨g3, 0, none⟩) 128 128)) (fun b => By' b ∨ NewB wr.heap.size w3 b) g ((toldL 5 bs a vs j).set n (fullL 0))) := by
        have hg1 := HNW.out.lt
        have h1 : NowS w3 (fun b => By' b ∨ NewB wr.heap.size w3 b) g (toldL 5 bs a vs j) := HNW.out.frame (B3.out.block _ hg1) (fun b hb => B3.out.block b (by_lt HBY.out HB'.out (Nat.le_trans hwW.out HG1.out.size) b hb)) (fun b hb => .inl hb) (fun h => h.elim HNW.out.not (fun h2 => by have := h2.1; omega))
        have h2 : RdIn w3 (fun b => By' b ∨ NewB wr.heap.size w3 b) (.sl .byte) (fullL 0) [.slice (some ⟨g3, 0, none⟩) (fullL 0).length 128] := by
          rw [hl0]
          exact R3.out.mono fun b hb => .inr hb
        have h3 := h1.put haj h2
        rw [hl0] at h3
        exact h3
      have HB2 : Hid (∀ b, (By' b ∨ NewB wr.heap.size w3 b) → By b ∨ NewB w.heap.size (w3.setCell ⟨g, n, none⟩ (.slice (some ⟨g3, 0, none⟩) 128 128)) b) := fun b hb => by
        rcases hb with h | h
        · exact (HB'.out b h).imp id (fun h => newB_set (newB_below h B3.out (Nat.le_trans hwW.out HG1.out.size)) _ _)
        · exact .inr (newB_set ⟨by have := h.1; have := HG1.out.size; have := hwW.out; omega, h.2⟩ _ _)
      have HNW3 : Hid (NowS (w3.setCell ⟨g, n, none⟩ (.slice (some ⟨g3, 0, none⟩) 128 128)) (fun b => By' b ∨ NewB wr.heap.size w3 b) g (toldL 5 bs a vs (j + 1))) := by
        show NowS _ _ _ ((toldL 5 bs a vs j).set (a + j) (blk 5 bs j))
        rw [← HN0.out]
        exact HNW2.out
      clear hS zw fw
      generalize w3.setCell ⟨g, n, none⟩ (.slice (some ⟨g3, 0, none⟩) 128 128) = w4 at *
      go_wp2
      go_roundw
      case rel => exact ⟨j + 1, _, HLJ.out, rfl, (by first | exact round_same HWJ | go_num), HG2.out, HB2.out, HNW3.out⟩
      case measure => first | exact round_less HWJ HLJ.out | (have h := HLJ.out; simp [intOf]; omega)
    · have hje : j = y := by omega
      have HNY : Hid (NowS wr By' g (toldL 5 bs a vs y)) := by rw [← hje]; exact nw
      have hEr : Bs wr E dat.length dat := bs_grown HE.out HEG.out g1 t0
      have x5 := PR5.cell
      have s1 := run_string_bs (P := Try.prog) q 29 9 5 Try.underlying29 Try.underlying5 Try.underlying9 hEr
      have s2 := run_string_bs (P := Try.prog) (w := wr) 0 29 9 5 Try.underlying29 Try.underlying5 Try.underlying9 (Bs.nil_ wr)
      have HGW : Hid (w.grownBy wr (some g)) := grown_two HG0.out g1
      clear nw hEr hje g1
      go_wp2
      go_ret
      exact ⟨rfl, HGW.out, By', HB'.out, HNY.out⟩
set_option maxRecDepth 100000 in
set_option maxHeartbeats 4000000 in
/-- a write -/
theorem told_put (By : Nat → Prop) (g cap : Nat) (vs : List (List UInt8)) (ki : UInt8) (a y : Nat) (D : Option Addr) (dc : Nat) (bs : List UInt8) (E : Option Addr) (q : Nat) (dat : List UInt8) (rn er : Int) (w : World)
    (k : Int) (hkk : ((ki.toNat : Nat) : Int) = k) (h1 : k = 2 ∨ k = 3) (hN : NowS w By g vs) (hBy : ∀ b, By b → b < w.heap.size) (hy : y ≤ 8) (hf : a + y ≤ vs.length) (hvl : vs.length ≤ 1000) (hbl : y * 128 ≤ bs.length) (hD : RdIn w By (.sl .byte) bs [.slice D bs.length dc]) (hE : Bs w E dat.length dat) (hEg : ∀ b o, E = some ⟨b, o, none⟩ → dat = [] ∨ b ≠ g) :
    Calls Try.prog 38 #[.slice (some ⟨g, 0, none⟩) vs.length cap, .agg #[.int .u8 (ki.toNat : Int), .int .i64 (a : Int), .int .i64 (y : Int), .slice D bs.length dc], .agg #[.int .i64 rn, .int .i64 er, .slice E dat.length q, .int .i64 (y : Int)]] w fun e w' => ToldIs By w g vs (toldL k bs a vs y) (dat == []) e w' := by
  have P4 := BoxOf.alloc (BoxOf.new w #[.int .u8 (ki.toNat : Int), .int .i64 (a : Int), .int .i64 (y : Int), .slice D bs.length dc] 58) (.cells #[.int .i64 rn, .int .i64 er, .slice E dat.length q, .int .i64 (y : Int)] 53)
  have P5 := BoxOf.new' (w.alloc (.cells #[.int .u8 (ki.toNat : Int), .int .i64 (a : Int), .int .i64 (y : Int), .slice D bs.length dc] 58)) (w.heap.size + 1) #[.int .i64 rn, .int .i64 er, .slice E dat.length q, .int .i64 (y : Int)] 53 (by simp)
  have t0 := Ext.alloc (Ext.alloc (Below.refl w.heap.size w) (.cells #[.int .u8 (ki.toNat : Int), .int .i64 (a : Int), .int .i64 (y : Int), .slice D bs.length dc] 58)) (.cells #[.int .i64 rn, .int .i64 er, .slice E dat.length q, .int .i64 (y : Int)] 53)
  have HN := Lib.hid (hN.below t0 hN.lt hBy)
  have HG0 : Hid (w.grownBy ((w.alloc (.cells #[.int .u8 (ki.toNat : Int), .int .i64 (a : Int), .int .i64 (y : Int), .slice D bs.length dc] 58)).alloc (.cells #[.int .i64 rn, .int .i64 er, .slice E dat.length q, .int .i64 (y : Int)] 53)) (some g)) := grown_below (grown_refl w _) t0 (Nat.le_refl _)
  have HE := Lib.hid hE
  have HEG := Lib.hid hEg
  have HBY := Lib.hid hBy
  have HF := Lib.hid hf
  have HVL := Lib.hid hvl
  have HY := Lib.hid hy
  have HGL := Lib.hid hN.lt
  have hk1 : (((ki.toNat : Nat) : Int) == 1) = false := by rw [hkk]; rcases h1 with h | h <;> rw [h] <;> rfl
  have hk5 : (((ki.toNat : Nat) : Int) == 5) = false := by rw [hkk]; rcases h1 with h | h <;> rw [h] <;> rfl
  have HKB : Hid (kBytes k = true) := decide_eq_true h1
  have HBL := Lib.hid hbl
  have HD := Lib.hid (hD.below t0)
  clear hN hE hBy hf hvl hy h1 hEg hkk hD hbl
  go_enter Try.func38, Try.ntmps38
  go_upto_region 1 with fail
  have hne : (((y : Nat) : Int) != ((y : Nat) : Int)) = false := by simp
  generalize (w.alloc (.cells #[.int .u8 (ki.toNat : Int), .int .i64 (a : Int), .int .i64 (y : Int), .slice D bs.length dc] 58)).alloc (.cells #[.int .i64 rn, .int .i64 er, .slice E dat.length q, .int .i64 (y : Int)] 53) = W at *
  have hwW : Hid (w.heap.size ≤ W.heap.size) := t0.size
  have hwW0 : Hid (w.heap.size < W.heap.size) := P4.lt
  have hwW1 : Hid (w.heap.size + 1 < W.heap.size) := P5.lt
  have x4 := P4.cell
  have x5 := P5.cell
  go_wp2
  clear x4 x5 hne
  go_loopw [7, 8] (fun v i wr => ∃ (j : Nat) (By' : Nat → Prop), j ≤ y ∧ v = .slice none 0 0 ∧ i = .int .i64 j ∧ W.grownBy wr (some g) ∧ Hid (∀ b, By' b → By b ∨ NewB w.heap.size wr b) ∧ NowS wr By' g (toldL k bs a vs j)) (fun _ i _ => y - (intOf i).toNat)
  case atStart => exact ⟨0, By, by omega, rfl, rfl, grown_refl _ _, fun b hb => Or.inl hb, HN.out⟩
  case round =>
    obtain ⟨j, By', hj, rfl, rfl, g1, HB', nw⟩ := hrel
    have PR4 : BoxOf wr w.heap.size #[.int .u8 (ki.toNat : Int), .int .i64 (a : Int), .int .i64 (y : Int), .slice D bs.length dc] 58 := P4.grown g1 (fun e => by have := HGL.out; injection e with e; omega)
    have PR5 : BoxOf wr (w.heap.size + 1) #[.int .i64 rn, .int .i64 er, .slice E dat.length q, .int .i64 (y : Int)] 53 := P5.grown g1 (fun e => by have := HGL.out; injection e with e; omega)
    have x4 := PR4.cell
    by_cases hlt : j < y
    · obtain ⟨n, hn⟩ : ∃ n, n = a + j := ⟨_, rfl⟩
      have hwb : IntKind.i64.wrap ((a : Int) + (j : Int)) = (n : Int) := by rw [i64_fit (by have := HVL.out; have := HF.out; omega)]; omega
      have hal : n < vs.length := by have := HF.out; omega
      have haj : n < (toldL k bs a vs j).length := by rw [toldL_len]; exact hal
      have HN0 := Lib.hid hn
      have HWJ := next_wrap (show y ≤ maxLen by have := HY.out; unfold maxLen; omega) hlt
      have HLJ := Lib.hid hlt
      obtain ⟨A0, l0, c0, m1⟩ : ∃ A0 l0 c0, wr.cell? ⟨g, n, none⟩ = some (.slice A0 l0 c0) := by
        obtain ⟨A0, c0, m1, _⟩ := nw.at haj
        exact ⟨_, _, _, m1⟩
      have fz := nw.free n
      have HNW := Lib.hid nw
      have HG1 := Lib.hid g1
      have HAJ := Lib.hid haj
      clear hj nw g1 haj hlt hn
      go_upto_region 8 with fail
      have HPR4 := Lib.hid PR4
      have hjb : j * 128 + 128 ≤ bs.length := by have := HBL.out; have := HLJ.out; omega
      obtain ⟨bd, od, hDe⟩ : ∃ bd od, D = some ⟨bd, od, none⟩ := by
        rcases HD.out.bytes_bs.2 with h0 | ⟨b, off, e, _⟩
        · have : bs = [] := by simpa using h0
          rw [this] at hjb
          simp at hjb
        · exact ⟨b, off, e⟩
      subst hDe
      have hcl : bs.length ≤ dc := by obtain ⟨_, c', e, hn, _⟩ := rdin_sl.1 HD.out; injection e with e _; injection e with _ _ e3; rw [e3]; exact hn
      have hpart := HD.out.part hjb
      have HPART : Hid (RdIn W By (.sl .byte) (blk k bs j) [.slice (some ⟨bd, od + j * 128, none⟩) 128 (dc - j * 128)]) := by
        unfold blk
        rw [if_pos HKB.out]
        rw [part128_len hjb] at hpart
        exact hpart
      have HB128 : Hid ((blk k bs j).length = 128) := toldBlk_len (fun _ => hjb)
      obtain ⟨p1, hp1⟩ : ∃ p, p = j * 128 := ⟨_, rfl⟩
      obtain ⟨p2, hp2⟩ : ∃ p, p = j * 128 + 128 := ⟨_, rfl⟩
      have hj1000 : j ≤ 1000 := by have := HY.out; have := HLJ.out; omega
      have hw1 : IntKind.i64.wrap ((j : Int) * 128) = (p1 : Int) := by rw [i64_fit (by omega)]; omega
      have hw2 : IntKind.i64.wrap ((p1 : Int) + 128) = (p2 : Int) := by rw [i64_fit (by omega)]; omega
      have hpd : p2 ≤ dc := by omega
      have hpp : p1 ≤ p2 := by omega
      have hdp : ¬ dc = p1 := by omega
      have hsub : p2 - p1 = 128 := by omega
      have HP1 := Lib.hid hp1
      have HP2 := Lib.hid hp2
      have HJL := Lib.hid hj1000
      clear hp1 hp2 hj1000 hjb hcl hpart
      have HS : Hid (∀ w', wr.grownBy w' (some g) → (wr.grownBy w' (some g) ∧ (∀ o, w'.cell? ⟨w.heap.size, o, none⟩ = #[Value.int .u8 (ki.toNat : Int), .int .i64 (a : Int), .int .i64 (y : Int), .slice (some ⟨bd, od, none⟩) bs.length dc].toList[o]?))) := fun w' b => ⟨b, (HPR4.out.grown b (fun e => by have := HGL.out; injection e with e; omega)).cell⟩
      refine wp_region_held_drew (S := fun w' => wr.grownBy w' (some g) ∧ (∀ o, w'.cell? ⟨w.heap.size, o, none⟩ = #[Value.int .u8 (ki.toNat : Int), .int .i64 (a : Int), .int .i64 (y : Int), .slice (some ⟨bd, od, none⟩) bs.length dc].toList[o]?)) (by kernel_rfl) (HS.out _ (grown_drew (grown_refl _ _))) (fun hS => ?_)
      refine wpAnyH_take (i := 0) (oi := _) (v := ?_) rfl (by kernel_rfl) (by kernel_rfl) (by kernel_rfl) (fun _ _ _ h => h) (Or.inl ⟨by rfl, ?_⟩) hS ?_
      rotate_left
      · (intro w hSw; (try dsimp only at hSw); go_simp; (try with_reducible rfl))
      rotate_left
      simp only [Act.put, List.getElem_toArray, List.getElem_cons_zero, List.getElem_cons_succ, List.setIfInBounds_toArray, List.set_cons_zero, List.set_cons_succ]
      refine wpAnyH_take (i := 1) (oi := _) (v := ?_) rfl (by kernel_rfl) (by kernel_rfl) (by kernel_rfl) (fun _ _ _ h => h) (Or.inl ⟨by rfl, ?_⟩) hS ?_
      rotate_left
      · (intro w hSw; (try dsimp only at hSw); go_simp; (try with_reducible rfl))
      rotate_left
      simp only [Act.put, List.getElem_toArray, List.getElem_cons_zero, List.getElem_cons_succ, List.setIfInBounds_toArray, List.set_cons_zero, List.set_cons_succ]
      refine wpAnyH_take (i := 2) (oi := _) (v := ?_) rfl (by kernel_rfl) (by kernel_rfl) (by kernel_rfl) (fun _ _ _ h => h) (Or.inl ⟨by rfl, ?_⟩) hS ?_
      rotate_left
      · (intro w hSw; (try dsimp only at hSw); go_simp; (try with_reducible rfl))
      rotate_left
      simp only [Act.put, List.getElem_toArray, List.getElem_cons_zero, List.getElem_cons_succ, List.setIfInBounds_toArray, List.set_cons_zero, List.set_cons_succ]
      refine wpAnyH_take (i := 3) (oi := _) (v := ?_) rfl (by kernel_rfl) (by kernel_rfl) (by kernel_rfl) (fun _ _ _ h => h) (Or.inl ⟨by rfl, ?_⟩) hS ?_
      rotate_left
      · (intro w hSw; (try dsimp only at hSw); go_simp; (try with_reducible rfl))
      rotate_left
      simp only [Act.put, List.getElem_toArray, List.getElem_cons_zero, List.getElem_cons_succ, List.setIfInBounds_toArray, List.set_cons_zero, List.set_cons_succ]
      refine wpAnyH_take (i := 4) (oi := _) (v := ?_) rfl (by kernel_rfl) (by kernel_rfl) (by kernel_rfl) (fun _ _ _ h => h) (Or.inl ⟨by rfl, ?_⟩) hS ?_
      rotate_left
      · (intro w hSw; (try dsimp only at hSw); go_simp; (try with_reducible rfl))
      rotate_left
      simp only [Act.put, List.getElem_toArray, List.getElem_cons_zero, List.getElem_cons_succ, List.setIfInBounds_toArray, List.set_cons_zero, List.set_cons_succ]
      refine wpAnyH_take (i := 5) (oi := _) (v := ?_) rfl (by kernel_rfl) (by kernel_rfl) (by kernel_rfl) (fun _ _ _ h => h) (Or.inl ⟨by rfl, ?_⟩) hS ?_
      rotate_left
      · (intro w hSw; (try dsimp only at hSw); go_simp; (try with_reducible rfl))
      rotate_left
      simp only [Act.put, List.getElem_toArray, List.getElem_cons_zero, List.getElem_cons_succ, List.setIfInBounds_toArray, List.set_cons_zero, List.set_cons_succ]
      refine wpAnyH_take (i := 6) (oi := _) (v := ?_) rfl (by kernel_rfl) (by kernel_rfl) (by kernel_rfl) (fun _ _ _ h => h) (Or.inl ⟨by rfl, ?_⟩) hS ?_
      rotate_left
      · (intro w hSw; (try dsimp only at hSw); go_simp; (try with_reducible rfl))
      rotate_left
      simp only [Act.put, List.getElem_toArray, List.getElem_cons_zero, List.getElem_cons_succ, List.setIfInBounds_toArray, List.set_cons_zero, List.set_cons_succ]
      refine wpAnyH_take (i := 7) (oi := _) (v := ?_) rfl (by kernel_rfl) (by kernel_rfl) (by kernel_rfl) (fun _ _ _ h => h) (Or.inl ⟨by rfl, ?_⟩) hS ?_
      rotate_left
      · (intro w hSw; (try dsimp only at hSw); go_simp; (try with_reducible rfl))
      rotate_left
      simp only [Act.put, List.getElem_toArray, List.getElem_cons_zero, List.getElem_cons_succ, List.setIfInBounds_toArray, List.set_cons_zero, List.set_cons_succ]
      refine wpAnyH_take (i := 8) (oi := _) (v := ?_) rfl (by kernel_rfl) (by kernel_rfl) (by kernel_rfl) (fun _ _ _ h => h) (Or.inl ⟨by rfl, ?_⟩) hS ?_
      rotate_left
      · (intro w hSw; (try dsimp only at hSw); go_simp; (try with_reducible rfl))
      rotate_left
      simp only [Act.put, List.getElem_toArray, List.getElem_cons_zero, List.getElem_cons_succ, List.setIfInBounds_toArray, List.set_cons_zero, List.set_cons_succ]
      refine wpAnyH_take (i := 9) (oi := _) (v := ?_) rfl (by kernel_rfl) (by kernel_rfl) (by kernel_rfl) (fun _ _ _ h => h) (Or.inl ⟨by rfl, ?_⟩) hS ?_
      rotate_left
      · (intro w hSw; (try dsimp only at hSw); go_simp; (try with_reducible rfl))
      rotate_left
      simp only [Act.put, List.getElem_toArray, List.getElem_cons_zero, List.getElem_cons_succ, List.setIfInBounds_toArray, List.set_cons_zero, List.set_cons_succ]
      refine wpAnyH_take (i := 10) (oi := _) (v := ?_) rfl (by kernel_rfl) (by kernel_rfl) (by kernel_rfl) (fun _ _ _ h => h) (Or.inl ⟨by rfl, ?_⟩) hS ?_
      rotate_left
      · (intro w hSw; (try dsimp only at hSw); go_simp; (try with_reducible rfl))
      rotate_left
      simp only [Act.put, List.getElem_toArray, List.getElem_cons_zero, List.getElem_cons_succ, List.setIfInBounds_toArray, List.set_cons_zero, List.set_cons_succ]
      refine wpAnyH_take (i := 11) (oi := _) (v := ?_) rfl (by kernel_rfl) (by kernel_rfl) (by kernel_rfl) (fun _ _ _ h => h) (Or.inl ⟨by rfl, ?_⟩) hS ?_
      rotate_left
      · (intro w hSw; (try dsimp only at hSw); go_simp; (try with_reducible rfl))
      rotate_left
      simp only [Act.put, List.getElem_toArray, List.getElem_cons_zero, List.getElem_cons_succ, List.setIfInBounds_toArray, List.set_cons_zero, List.set_cons_succ]
      refine wpAnyH_take (i := 12) (oi := _) (v := ?_) rfl (by kernel_rfl) (by kernel_rfl) (by kernel_rfl) (fun _ _ _ h => h) (Or.inl ⟨by rfl, ?_⟩) hS ?_
      rotate_left
      · (intro w hSw; (try dsimp only at hSw); go_simp; (try with_reducible rfl))
      rotate_left
      simp only [Act.put, List.getElem_toArray, List.getElem_cons_zero, List.getElem_cons_succ, List.setIfInBounds_toArray, List.set_cons_zero, List.set_cons_succ]
      refine wpAnyH_take (i := 13) (oi := _) (v := ?_) rfl (by kernel_rfl) (by kernel_rfl) (by kernel_rfl) (fun _ _ _ h => h) (Or.inl ⟨by rfl, ?_⟩) hS ?_
      rotate_left
      · (intro w hSw; (try dsimp only at hSw); go_simp; (try with_reducible rfl))
      rotate_left
      simp only [Act.put, List.getElem_toArray, List.getElem_cons_zero, List.getElem_cons_succ, List.setIfInBounds_toArray, List.set_cons_zero, List.set_cons_succ]
      have zw : wr.drew.cell? ⟨g, n, none⟩ = some (.slice A0 l0 c0) := m1
      have fw : wr.drew.frozen? ⟨g, n, none⟩ = false := fz
      refine wpAnyH_ready (rs := [14]) (by kernel_rfl) (by simp) ?_
      refine AllReadyH.cons rfl (fun K hK => ?_) AllReadyH.nil
      rw [if_pos (by rfl)]
      go_simp
      refine hK.out _ _ (HS.out _ (grown_setCell (grown_drew (grown_refl _ _)) _ _)) (fun hS' => ?_)
      clear hK K hS
      have hS := hS'
      clear hS'
      try simp only [Act.put, List.getElem_toArray, List.getElem_cons_zero, List.getElem_cons_succ, List.setIfInBounds_toArray, List.set_cons_zero, List.set_cons_succ]
      refine wpAnyH_done (by kernel_rfl) ?_ _
      have haj := HAJ.out
      have HG2 : Hid (W.grownBy (wr.setCell ⟨g, n, none⟩ (.slice (some ⟨bd, od + p1, none⟩) 128 (dc - p1))).drew (some g)) := grown_drew (grown_setCell HG1.out _ _)
      have HNW3 : Hid (NowS ((wr.setCell ⟨g, n, none⟩ (.slice (some ⟨bd, od + p1, none⟩) 128 (dc - p1))).drew) (fun b => By' b ∨ By b) g (toldL k bs a vs (j + 1))) := by
        have hng : ¬ By g := HN.out.not
        have h1 : NowS wr (fun b => By' b ∨ By b) g (toldL k bs a vs j) := HNW.out.frame rfl (fun b hb => rfl) (fun b hb => .inl hb) (fun h => h.elim HNW.out.not hng)
        have h2 : RdIn wr (fun b => By' b ∨ By b) (.sl .byte) (blk k bs j) [.slice (some ⟨bd, od + p1, none⟩) (blk k bs j).length (dc - p1)] := by
          rw [HB128.out, HP1.out]
          exact (HPART.out.grownBy HG1.out (fun b hb e => hng ((Option.some.inj e) ▸ hb))).mono fun b hb => .inr hb
        have h3 := h1.put haj h2
        rw [HB128.out] at h3
        show NowS _ _ _ ((toldL k bs a vs j).set (a + j) (blk k bs j))
        rw [← HN0.out]
        exact h3.frame rfl (fun _ _ => rfl) (fun _ h => h) h3.not
      have HB2 : Hid (∀ b, (By' b ∨ By b) → By b ∨ NewB w.heap.size ((wr.setCell ⟨g, n, none⟩ (.slice (some ⟨bd, od + p1, none⟩) 128 (dc - p1))).drew) b) := fun b hb => by
        rcases hb with h | h
        · exact (HB'.out b h).imp id (fun h => newB_set h _ _)
        · exact .inl h
      clear hS zw fw hsub hdp hpp hpd hw2 hw1
      generalize (wr.setCell ⟨g, n, none⟩ (.slice (some ⟨bd, od + p1, none⟩) 128 (dc - p1))).drew = w4 at *
      go_wp2
      go_roundw
      case rel => exact ⟨j + 1, _, HLJ.out, rfl, (by first | exact round_same HWJ | go_num), HG2.out, HB2.out, HNW3.out⟩
      case measure => first | exact round_less HWJ HLJ.out | (have h := HLJ.out; simp [intOf]; omega)
    · have hje : j = y := by omega
      have HNY : Hid (NowS wr By' g (toldL k bs a vs y)) := by rw [← hje]; exact nw
      have hEr : Bs wr E dat.length dat := bs_grown HE.out HEG.out g1 t0
      have x5 := PR5.cell
      have s1 := run_string_bs (P := Try.prog) q 29 9 5 Try.underlying29 Try.underlying5 Try.underlying9 hEr
      have s2 := run_string_bs (P := Try.prog) (w := wr) 0 29 9 5 Try.underlying29 Try.underlying5 Try.underlying9 (Bs.nil_ wr)
      have HGW : Hid (w.grownBy wr (some g)) := grown_two HG0.out g1
      clear nw hEr hje g1
      go_wp2
      go_ret
      exact ⟨rfl, HGW.out, By', HB'.out, HNY.out⟩
end Go.Proofs.Ytclbihcggjjgaaa
/- Layer 30 (model): 'told', whatever the kind; deeds; 'long'. -/
namespace Go.Proofs.Ytclbihcggjjgaaa
open Go Go.RowKit
set_option linter.unusedSimpArgs false
set_option linter.unusedVariables false

theorem ToldIs.read {By : Nat → Prop} {w w' : World} {g : Nat} {vs : List (List UInt8)} {b : Bool} {e : Ending} (hN : NowS w By g vs) (hBy : ∀ b, By b → b < w.heap.size) (he : e = .returned (.bool b)) (hb : Below w.heap.size w w') : ToldIs By w g vs vs b e w' :=
  ⟨he, grown_below (grown_refl _ _) hb (Nat.le_refl _), By, fun _ h => .inl h, hN.below hb hN.lt hBy⟩
/-- whatever the kind -/
theorem told_any (By : Nat → Prop) (g cap : Nat) (vs : List (List UInt8)) (ki : UInt8) (a y : Nat) (D : Option Addr) (dc : Nat) (bs : List UInt8) (E : Option Addr) (q : Nat) (dat : List UInt8) (rn er : Int) (w : World)
    (hk : 0 < y → ((ki.toNat : Nat) : Int) = 1 ∨ kWrites ((ki.toNat : Nat) : Int) = true) (hb : kBytes ((ki.toNat : Nat) : Int) = true → y * 128 ≤ bs.length) (hw : kWrites ((ki.toNat : Nat) : Int) = true → 1 ≤ y) (hN : NowS w By g vs) (hBy : ∀ b, By b → b < w.heap.size) (h128 : ∀ v ∈ vs, v.length = 128) (hy : y ≤ 8) (hf : a + y ≤ vs.length) (hvl : vs.length ≤ 1000) (hD : RdIn w By (.sl .byte) bs [.slice D bs.length dc]) (hE : Bs w E dat.length dat) (hEg : ∀ b o, E = some ⟨b, o, none⟩ → dat = [] ∨ b ≠ g) :
    Calls Try.prog 38 #[.slice (some ⟨g, 0, none⟩) vs.length cap, .agg #[.int .u8 (ki.toNat : Int), .int .i64 (a : Int), .int .i64 (y : Int), .slice D bs.length dc], .agg #[.int .i64 rn, .int .i64 er, .slice E dat.length q, .int .i64 (y : Int)]] w fun e w' => ToldIs By w g vs (nowOf ((ki.toNat : Nat) : Int) bs a y vs) (dat == if kWrites ((ki.toNat : Nat) : Int) = true then [] else tellS vs a y) e w' := by
  by_cases h : kWrites ((ki.toNat : Nat) : Int) = true
  · have h2 : nowOf ((ki.toNat : Nat) : Int) bs a y vs = toldL ((ki.toNat : Nat) : Int) bs a vs y := by unfold nowOf; rw [if_pos h]
    rw [h2, if_pos h]
    by_cases h5 : ((ki.toNat : Nat) : Int) = 5
    · rw [h5]
      have := told_cut By g cap vs ki a y D dc bs E q dat rn er w h5 hN hBy hy hf hvl hE hEg
      rw [h5] at this
      exact this
    · have h23 : ((ki.toNat : Nat) : Int) = 2 ∨ ((ki.toNat : Nat) : Int) = 3 := by
        have h6 : ((ki.toNat : Nat) : Int) = 2 ∨ ((ki.toNat : Nat) : Int) = 3 ∨ ((ki.toNat : Nat) : Int) = 5 := of_decide_eq_true h
        omega
      exact told_put By g cap vs ki a y D dc bs E q dat rn er w _ rfl h23 hN hBy hy hf hvl (hb (decide_eq_true h23)) hD hE hEg
  · have h2 : nowOf ((ki.toNat : Nat) : Int) bs a y vs = vs := by unfold nowOf; rw [if_neg h]
    rw [h2, if_neg h]
    refine (told_read By g cap vs ki a y D dc bs E q dat rn er w (fun h3 => (hk h3).resolve_right h) hN hBy h128 hy hf hvl hE).mono ?_
    rintro e w' ⟨he, hb'⟩
    exact .read hN hBy he hb'

/-! ### deeds -/
abbrev DeedTy : Ty := .st (.prod .byte (.prod (.st (.prod .byte (.prod .int (.prod .int (.prod (.sl .byte) .unit))))) (.prod .int (.prod (.sl .byte) .unit))))
theorem deed_view {w : World} {S : Nat → Prop} {d : DeedTy.T} {cs : List Value} (h : RdIn w S DeedTy d cs) : ∃ (kd ki : UInt8) (at' many : Int) (bs : List UInt8) (D : Option Addr) (dc : Nat) (nu : Int) (ps : List UInt8) (P : Option Addr) (pc : Nat),
    d = (kd, (ki, at', many, bs, ()), nu, ps, ()) ∧ cs = [.int .u8 (kd.toNat : Int), .int .u8 (ki.toNat : Int), .int .i64 at', .int .i64 many, .slice D bs.length dc, .int .i64 nu, .slice P ps.length pc] ∧ (IsInt at' ∧ IsInt many ∧ IsInt nu) ∧
      RdIn w S (.sl .byte) bs [.slice D bs.length dc] ∧ RdIn w S (.sl .byte) ps [.slice P ps.length pc] := by
  obtain ⟨kd, a, nu, ps, u⟩ := d
  obtain ⟨c0, d0, rfl, r0, h⟩ := rdin_prod.1 (rdin_st.1 h)
  obtain ⟨c1, d1, rfl, r1, h⟩ := rdin_prod.1 h
  obtain ⟨c2, d2, rfl, r2, h⟩ := rdin_prod.1 h
  obtain ⟨c3, d3, rfl, r3, h⟩ := rdin_prod.1 h
  obtain rfl := rdin_unit.1 h
  obtain rfl := rdin_byte.1 r0
  obtain ⟨rfl, i2⟩ := rdin_int.1 r2
  obtain ⟨ki, at', many, bs, v, rfl, rfl, i0, i1, r4⟩ := ask_view r1
  obtain ⟨D, dc, rfl, _⟩ := r4.bytes
  obtain ⟨P, pc, e3, _⟩ := rdin_sl.1 r3
  subst e3
  exact ⟨kd, ki, at', many, bs, D, dc, nu, ps, P, pc, rfl, rfl, ⟨i0, i1, i2⟩, r4, r3⟩
theorem deeds_view {w : World} {S : Nat → Prop} {l : List DeedTy.T} {v : Value} (h : RdIn w S (.sl DeedTy) l [v]) : ∃ A c, v = .slice A l.length c ∧ l.length ≤ maxLen ∧ (0 < l.length → ∃ b off, A = some ⟨b, off, none⟩ ∧ S b ∧ ∀ i (hi : i < l.length), ∃ es : List Value, (∀ j, j < 7 → w.cell? ⟨b, off + i * 7 + j, none⟩ = es[j]?) ∧ RdIn w S DeedTy l[i] es) := by
  obtain ⟨A, c, h1, h2, h3, h4, h5⟩ := list_view h
  exact ⟨A, c, h1, Nat.le_trans h2 h3, h5⟩
/-- one deed's cells -/
theorem deed_at {w : World} {S : Nat → Prop} {l : List DeedTy.T} {A : Option Addr} {c : Nat} (h : RdIn w S (.sl DeedTy) l [.slice A l.length c]) {i : Nat} (hi : i < l.length) :
    ∃ (b off : Nat) (kd ki : UInt8) (at' many : Int) (bs : List UInt8) (D : Option Addr) (dc : Nat) (nu : Int) (ps : List UInt8) (P : Option Addr) (pc : Nat), A = some ⟨b, off, none⟩ ∧
      (∀ j, j < 7 → w.cell? ⟨b, off + i * 7 + j, none⟩ = [Value.int .u8 (kd.toNat : Int), .int .u8 (ki.toNat : Int), .int .i64 at', .int .i64 many, .slice D bs.length dc, .int .i64 nu, .slice P ps.length pc][j]?) ∧ (IsInt at' ∧ IsInt many ∧ IsInt nu) ∧
      RdIn w S (.sl .byte) bs [.slice D bs.length dc] ∧ RdIn w S (.sl .byte) ps [.slice P ps.length pc] := by
  obtain ⟨A', c', e, _, h2⟩ := deeds_view h
  injection e with e1 e2 e3
  subst e1
  obtain ⟨b, off, e4, _, h3⟩ := h2 (by omega)
  obtain ⟨es, h4, h5⟩ := h3 i hi
  obtain ⟨kd, ki, at', many, bs, D, dc, nu, ps, P, pc, _, rfl, h6, h7, h8⟩ := deed_view h5
  exact ⟨b, off, kd, ki, at', many, bs, D, dc, nu, ps, P, pc, e4, h4, h6, h7, h8⟩
/-! ### long -/
def LongIs (n : Nat) (e : Ending) : Prop := ∃ b, e = .returned (.bool b) ∧ (b = false → n ≤ 40)
set_option maxRecDepth 100000 in
set_option maxHeartbeats 2000000 in
theorem long_any (S : Nat → Prop) (l : List DeedTy.T) (A : Option Addr) (c : Nat) (w : World) (h : RdIn w S (.sl DeedTy) l [.slice A l.length c]) :
    Calls Try.prog 37 #[.slice A l.length c] w fun e w' => LongIs l.length e ∧ Below w.heap.size w w' := by
  have HL := Lib.hid h
  have HM : Hid (l.length ≤ maxLen) := by obtain ⟨_, _, _, h2, _⟩ := deeds_view h; exact h2
  clear h
  go_enter Try.func37, Try.ntmps37
  go_upto_region 1 with fail
  go_wp2
  go_loopw [3] (fun i wr => ∃ j : Nat, j ≤ 100 ∧ j ≤ l.length ∧ i = .int .i64 j ∧ Below w.heap.size w wr) (fun i _ => 100 - (intOf i).toNat)
  case atStart => exact ⟨0, by omega, by omega, rfl, Below.refl _ _⟩
  case round =>
    obtain ⟨j, hj, hjn, rfl, b1⟩ := hrel
    by_cases hlt : j < l.length
    · by_cases h100 : j < 100
      · obtain ⟨b, off, kd, ki, at', many, bs, D, dc, nu, ps, P, pc, rfl, hcs, _⟩ := deed_at HL.out hlt
        have c4 : wr.cell? ⟨b, off + j * 7 + 4, none⟩ = some (.slice D bs.length dc) := (b1.cell (p := ⟨b, off + j * 7 + 4, none⟩) (block_lt_of_cell (hcs 4 (by decide)))).trans (hcs 4 (by decide))
        have c6 : wr.cell? ⟨b, off + j * 7 + 6, none⟩ = some (.slice P ps.length pc) := (b1.cell (p := ⟨b, off + j * 7 + 6, none⟩) (block_lt_of_cell (hcs 6 (by decide)))).trans (hcs 6 (by decide))
        have HWJ := next_wrap HM.out hlt
        have HLJ := Lib.hid hlt
        have HJ := Lib.hid h100
        clear hcs
        by_cases h5 : 5000 < bs.length
        · go_wp2
          go_ret
          exact ⟨⟨true, rfl, fun h => by cases h⟩, b1⟩
        · by_cases h6 : 2000 < ps.length
          · go_wp2
            go_ret
            exact ⟨⟨true, rfl, fun h => by cases h⟩, b1⟩
          · go_wp2
            go_roundw
            case rel => exact ⟨j + 1, HJ.out, HLJ.out, (by first | exact round_same HWJ | go_num), b1⟩
            case measure => first | exact round_less HWJ HJ.out | (have h := HJ.out; simp [intOf]; omega)
      · go_wp2
        go_ret
        exact ⟨⟨_, rfl, fun h => by have := of_decide_eq_false h; omega⟩, b1⟩
    · go_wp2
      go_ret
      exact ⟨⟨_, rfl, fun h => by have := of_decide_eq_false h; omega⟩, b1⟩
end Go.Proofs.Ytclbihcggjjgaaa
/- Layer 30 (model), plainly: what holds of a plain array, of its blocks' last values and of the requests asked, whatever is done. -/
namespace Go.Proofs.Ytclbihcggjjgaaa
open Go Go.RowKit
set_option linter.unusedVariables false

/-! ### requests that go on keep what was asked -/
section
variable {α : Type} {f : GoTy.T → α}
theorem keep_drop (hf : ∀ b many g, f (dropMk b many g) = f g) (b many : Nat) (gs : List GoTy.T) : (dropG b many gs).map f = gs.map f := by
  unfold dropG
  rw [List.map_map]
  congr 1
  funext g
  exact hf b many g
theorem keep_marks (hf : ∀ b many g, f (dropMk b many g) = f g) (ms : List Int) (s : Ys × List GoTy.T) : ∀ j, (marksS ms j s).2.map f = s.2.map f
  | 0 => rfl
  | j + 1 => by
    show (dropG j (ms.getD j 0).toNat (marksS ms j s).2).map f = _
    rw [keep_drop hf, keep_marks hf ms s j]
theorem keep_put (hf : ∀ b many g, f (dropMk b many g) = f g) (k : Int) (b : Nat) (v : List UInt8) (s : Ys × List GoTy.T) : (putS k b v s).2.map f = s.2.map f := by
  unfold putS
  split
  · exact keep_drop hf _ _ _
  · rfl
theorem keep_end (hf : ∀ b many g, f (dropMk b many g) = f g) {k : Int} {bs : List UInt8} {a : Nat} {s : Ys × List GoTy.T} : ∀ i t, endS k bs a i s = some t → t.1.2.map f = s.2.map f
  | 0, t, ht => by obtain rfl := Option.some.inj ht; rfl
  | i + 1, t, ht => by
    obtain ⟨t', h1, h2⟩ := Option.bind_eq_some_iff.1 (show (endS k bs a i s).bind (stepS k bs a i) = some t from ht)
    have h3 := keep_end hf i t' h1
    unfold stepS at h2
    split at h2
    · split at h2
      · cases h2
      · obtain rfl := Option.some.inj h2
        show (putS k (a + i) (blk k bs i) t'.1).2.map f = _
        rw [keep_put hf, h3]
    · obtain rfl := Option.some.inj h2
      exact h3
end
/-- a request, as it was asked -/
abbrev AskV : Type := UInt8 × Int × Int × List UInt8
def askOf (g : GoTy.T) : AskV := (kiOf g, atOf g, manyOf g, datOf g)
def askNu (g : GoTy.T) : Int × AskV := (nuOf g, askOf g)
theorem askNu_drop (b many : Nat) (g : GoTy.T) : askNu (dropMk b many g) = askNu g := by
  unfold askNu askOf
  rw [dropMk_nu, dropMk_ki, dropMk_at, dropMk_many, dropMk_dat]

/-! ### what holds always -/
structure LastI (x : Cfg) (ys : Ys) (gs : List GoTy.T) (vs : List (List UInt8)) (aks : List AskV) : Prop where
  ok : PlainOk x ys gs
  vlen : vs.length = ys.length
  v128 : ∀ v ∈ vs, v.length = 128
  now : ∀ c, c < ys.length → vs.getD c [] = lastV ys c
  asks : ∀ g ∈ gs, ∃ n : Nat, nuOf g = ((n + 1 : Nat) : Int) ∧ aks[n]? = some (askOf g)
theorem LastI.start {x : Cfg} {ys : Ys} (h : NewRel x 0 ys) : LastI x ys [] (List.replicate ys.length zeros) [] := by
  rcases h with ⟨_, h, _⟩ | ⟨h1, _, rfl⟩
  · exact absurd h (by decide)
  · have hc := Cfg.crm h1
    refine ⟨⟨h1, ?_, by simp, nulls_vals _, fun i h => absurd h (Nat.not_lt_zero _)⟩, List.length_replicate, ?_, fun c hc' => ?_, fun g h => absurd h List.not_mem_nil⟩
    · rw [nulls_len]; omega
    · intro v hv
      rw [(List.mem_replicate.1 hv).2]
      exact zeros_len
    · unfold lastV
      rw [getD_lt hc', List.getD_eq_getElem?_getD, List.getElem?_replicate, if_pos hc']
      have e : (nulls (x.c * x.r * (x.m - 1)).toNat)[c] = [zeros] := List.getElem_replicate _
      rw [e]
      rfl
theorem LastI.begin {x : Cfg} {ys : Ys} {gs : List GoTy.T} {vs : List (List UInt8)} {aks : List AskV} (h : LastI x ys gs vs aks) {ki : UInt8} {a y : Int} {bs : List UInt8} {zs : Ys} {hs : List GoTy.T} {number : Int} (hn : number = ((aks.length + 1 : Nat) : Int)) (hb : BegRel x ys gs number ki a y bs 0 zs hs) : LastI x zs hs vs (aks ++ [(ki, a, y, bs)]) := by
  obtain ⟨rfl, rfl, h3, h4⟩ := hb.ok
  refine ⟨h3, h.vlen, h.v128, h.now, fun g hg => ?_⟩
  rcases List.mem_append.1 hg with hg | hg
  · obtain ⟨n, h5, h6⟩ := h.asks g hg
    exact ⟨n, h5, by rw [List.getElem?_append_left (List.getElem?_eq_some_iff.1 h6).1]; exact h6⟩
  · obtain rfl := List.mem_singleton.1 hg
    refine ⟨aks.length, hn, ?_⟩
    rw [List.getElem?_append_right (Nat.le_refl _), Nat.sub_self]
    rfl
/-- what an end tells -/
theorem LastI.end {x : Cfg} {ys : Ys} {gs : List GoTy.T} {vs : List (List UInt8)} {aks : List AskV} (h : LastI x ys gs vs aks) {number : Int} {zs : Ys} {hs : List GoTy.T} {rn : Int} {dat : List UInt8} {many : Int} (he : EndRel x ys gs number 0 zs hs rn dat many) :
    ∃ (n : Nat) (ki : UInt8) (a y : Nat) (bs : List UInt8), number = ((n + 1 : Nat) : Int) ∧ aks[n]? = some (ki, (a : Int), (y : Int), bs) ∧ rn = number ∧ many = (y : Int) ∧
      ((0 < y → ((ki.toNat : Nat) : Int) = 1 ∨ kWrites ((ki.toNat : Nat) : Int) = true) ∧ (kBytes ((ki.toNat : Nat) : Int) = true → y * 128 ≤ bs.length) ∧ (kWrites ((ki.toNat : Nat) : Int) = true → 1 ≤ y) ∧ y ≤ 8 ∧ a + y ≤ vs.length ∧ vs.length ≤ 1000) ∧
      (dat = if kWrites ((ki.toNat : Nat) : Int) = true then [] else tellS vs a y) ∧ LastI x zs hs (nowOf ((ki.toNat : Nat) : Int) bs a y vs) aks := by
  rcases he with he | he | he | ⟨h1, ⟨j, hj, h2, h3, h4⟩, _, h5⟩
  · have := he.2.1; omega
  · have := he.2.2.1; omega
  · have := he.2.2.1; omega
  · obtain ⟨a, y, ea⟩ := endAll_at h1 hj h3
    obtain ⟨n, h6, h7⟩ := h.asks gs[j] (List.getElem_mem hj)
    have hkind : 0 < y → ((((kiOf gs[j]).toNat : Nat) : Int) = 1 ∨ kWrites (((kiOf gs[j]).toNat : Nat) : Int) = true) := by
      intro h0
      have hone := (h1.goes j hj).1
      obtain ⟨_, aok2, _⟩ := askCode_0 hone.2.1
      have hy := ea.hy
      unfold Placed at aok2
      rcases aok2 with h8 | h8
      · unfold kWrites
        have h9 := h8.1
        unfold kMost at h9
        split at h9
        · rename_i h10
          rcases h10 with h10 | h10
          · exact .inl h10
          · exact .inr (decide_eq_true h10)
        · exact absurd h9 (by decide)
      · have := h8.2.2; omega
    refine ⟨n, kiOf gs[j], a, y, datOf gs[j], by rw [← h2, h6], ?_, h5, ?_, ⟨hkind, ea.bytes, ea.write1, ea.few, by rw [h.vlen]; exact ea.fit, by rw [h.vlen]; exact h1.short⟩, ea.tells h1 h.now, ?_⟩
    · rw [h7]
      unfold askOf
      rw [ea.ha, ea.hy]
    · rw [h4, ea.hy]
    · refine ⟨ea.ok, by rw [nowOf_len, h.vlen, ea.len], nowOf_128 h.v128 ea.bytes, fun c hc => ?_, fun g hg => ?_⟩
      · rw [ea.len] at hc
        rw [nowOf_at _ _ _ _ _ (by rw [h.vlen]; exact ea.fit), ea.last h1 hc, h.now c hc]
      · have hd := ea.data
        have hm : hs.map askNu = (gs.eraseIdx j).map askNu := (keep_end askNu_drop y _ hd).trans (keep_marks askNu_drop _ _ _)
        have hg2 : askNu g ∈ (gs.eraseIdx j).map askNu := by rw [← hm]; exact List.mem_map_of_mem hg
        obtain ⟨g', hg3, hg4⟩ := List.mem_map.1 hg2
        obtain ⟨n', h8, h9⟩ := h.asks g' (List.mem_of_mem_eraseIdx hg3)
        unfold askNu at hg4
        injection hg4 with hg5 hg6
        exact ⟨n', by rw [← hg5]; exact h8, by rw [← hg6]; exact h9⟩
theorem LastI.crash {x : Cfg} {ys : Ys} {gs : List GoTy.T} {vs : List (List UInt8)} {aks : List AskV} (h : LastI x ys gs vs aks) {left : List (List UInt8)} (hl : left.length = ys.length) (hk : Pick ys left) : LastI x (ones left) [] left aks := by
  have h128 := pick_len h.ok hl hk
  refine ⟨ones_plain h.ok hl h128, (ones_len left).symm, fun v hv => ?_, fun c hc => ?_, fun g hg => absurd hg List.not_mem_nil⟩
  · obtain ⟨i, hi, rfl⟩ := List.getElem_of_mem hv
    exact h128 i hi
  · rw [ones_len] at hc
    unfold lastV
    rw [getD_lt (by rw [ones_len]; exact hc), ones_at (by rw [ones_len]; exact hc) hc, List.getD_eq_getElem?_getD, List.getElem?_eq_getElem hc]
    rfl
end Go.Proofs.Ytclbihcggjjgaaa
/- Layer 30 (model): ModelLeaves: what a crash may leave, and leaves. -/
namespace Go.Proofs.Ytclbihcggjjgaaa
open Go Go.RowKit
set_option linter.unusedSimpArgs false
set_option linter.unusedVariables false

theorem RdIn.tt {w : World} {S : Nat → Prop} {t : Ty} {x : t.T} {cs : List Value} (h : RdIn w S t x cs) : RdIn w (fun _ => True) t x cs := h.mono fun _ _ => trivial
theorem cfg_deep {w : World} {S : Nat → Prop} {cs : List Value} {x : (Ty.st (.prod .u32 (.prod .int (.prod .int (.prod .int (.prod .int (.prod .int .unit))))))).T} (h : RdIn w S (Ty.st (.prod .u32 (.prod .int (.prod .int (.prod .int (.prod .int (.prod .int .unit))))))) x cs) : ∃ y : Cfg, Value.agg cs.toArray = y.val := by
  obtain ⟨id, m, c, r, l, h', u⟩ := x
  obtain ⟨c0, d0, rfl, r0, h⟩ := rdin_prod.1 (rdin_st.1 h)
  obtain ⟨c1, d1, rfl, r1, h⟩ := rdin_prod.1 h
  obtain ⟨c2, d2, rfl, r2, h⟩ := rdin_prod.1 h
  obtain ⟨c3, d3, rfl, r3, h⟩ := rdin_prod.1 h
  obtain ⟨c4, d4, rfl, r4, h⟩ := rdin_prod.1 h
  obtain ⟨c5, d5, rfl, r5, h⟩ := rdin_prod.1 h
  obtain rfl := rdin_unit.1 h
  obtain ⟨rfl, _⟩ := rdin_u32.1 r0
  obtain ⟨rfl, _⟩ := rdin_int.1 r1
  obtain ⟨rfl, _⟩ := rdin_int.1 r2
  obtain ⟨rfl, _⟩ := rdin_int.1 r3
  obtain ⟨rfl, _⟩ := rdin_int.1 r4
  obtain ⟨rfl, _⟩ := rdin_int.1 r5
  exact ⟨⟨id, m, c, r, l, h'⟩, rfl⟩

theorem sl_deep {w : World} {S : Nat → Prop} {e : Ty} {xs : List e.T} {v : Value} (h : RdIn w S (.sl e) xs [v]) : ∃ A c, v = .slice A xs.length c := by
  obtain ⟨A, c, e, _⟩ := rdin_sl.1 h
  exact ⟨A, c, (List.cons.inj e).1⟩
end Go.Proofs.Ytclbihcggjjgaaa
/- Layer 30 (model): ModelStays: a crash to the values that there are leaves them. -/
namespace Go.Proofs.Ytclbihcggjjgaaa
open Go Go.RowKit
set_option linter.unusedSimpArgs false
set_option linter.unusedVariables false

theorem Vals.row {w w' : World} {S T : Nat → Prop} {base : Nat} {left : List (List UInt8)} {vals : List Value} {g cap : Nat} (h : Vals w S left vals) (hb : Below w.heap.size w w') (ho : w'.ownsRow base 29 1 (.slice (some ⟨g, 0, none⟩) left.length cap) left.length vals) (hS : ∀ b, S b → T b) (hT : T g) (hz : left.length * 24 ≤ 140737488355328) : RdIn w' T (.sl (.sl .byte)) left [.slice (some ⟨g, 0, none⟩) left.length cap] := by
  obtain ⟨_, ho⟩ := ho
  rcases ho with ⟨e, _⟩ | ⟨g', cap', cur, e, _, hh, h5, h6, h7, h8⟩
  · cases e
  · injection e with e1 e2 e3
    injection e1 with e1
    injection e1 with e4
    subst e4
    subst e3
    refine rdin_sl.2 ⟨_, _, rfl, h5, h6, hz, .inr ⟨g, 0, rfl, hT, fun i hi => ?_⟩⟩
    have hi' : i < left.length := hi
    have hv : i < vals.length := by rw [h.1]; exact hi'
    refine ⟨[vals[i]], fun j hj => ?_, ((h.2 i hi' hv).below hb).mono hS⟩
    have hj0 : j = 0 := by have : j < 1 := hj; omega
    subst hj0
    rw [Nat.mul_one] at h8
    have h9 : cur.toList[i]? = some vals[i] := by
      have h10 : (cur.toList.take left.length)[i]? = some vals[i] := by rw [h8]; exact List.getElem?_eq_getElem hv
      rw [List.getElem?_take] at h10
      rw [if_pos hi'] at h10
      exact h10
    show w'.cell? ⟨g, 0 + i * 1 + 0, none⟩ = some vals[i]
    have e0 : 0 + i * 1 + 0 = i := by omega
    rw [e0]
    exact (BoxOf.cell (show BoxOf w' g cur 29 from hh) i).trans h9
end Go.Proofs.Ytclbihcggjjgaaa
/- Layer 30 (model): the statement's memory while deeds are done. -/
namespace Go.Proofs.Ytclbihcggjjgaaa
open Go Go.RowKit
set_option linter.unusedVariables false

theorem minfo_ask : ∃ i, Try.prog.info? 58 = some i ∧ i.zero = some (.agg #[.int .u8 0, .int .i64 0, .int .i64 0, .slice none 0 0]) ∧ i.size = 4 ∧ i.bytes = 48 := info_parts (by kernel_rfl)
/-- blocks that no deed turns: not the plain array's box, not the values' row, not the requests' row -/
def Free (w : World) (P g : Nat) (v : Value) (b : Nat) : Prop := b < w.heap.size ∧ b ≠ P ∧ b ≠ g ∧ v.ownBlock ≠ some b
/-- a request that was asked -/
def AskAt (w0 : World) (vals : List Value) (aks : List AskV) : Prop :=
  vals.length = aks.length * 4 ∧ ∀ n (ki : UInt8) (a y : Int) (bs : List UInt8), aks[n]? = some (ki, a, y, bs) → ∃ D dc, (∀ j, j < 4 → vals[n * 4 + j]? = [Value.int .u8 (ki.toNat : Int), .int .i64 a, .int .i64 y, .slice D bs.length dc][j]?) ∧ RdIn w0 (fun b => b < w0.heap.size) (.sl .byte) bs [.slice D bs.length dc]
theorem AskAt.nil (w0 : World) : AskAt w0 [] [] := ⟨rfl, fun n ki a y bs h => by cases h⟩
theorem AskAt.push {w0 : World} {vals : List Value} {aks : List AskV} (h : AskAt w0 vals aks) {ki : UInt8} {a y : Int} {bs : List UInt8} {D : Option Addr} {dc : Nat} (hd : RdIn w0 (fun b => b < w0.heap.size) (.sl .byte) bs [.slice D bs.length dc]) : AskAt w0 (vals ++ [.int .u8 (ki.toNat : Int), .int .i64 a, .int .i64 y, .slice D bs.length dc]) (aks ++ [(ki, a, y, bs)]) := by
  refine ⟨by rw [List.length_append, List.length_append, h.1]; simp; omega, fun n k' a' y' bs' hn => ?_⟩
  by_cases hl : n < aks.length
  · rw [List.getElem?_append_left hl] at hn
    obtain ⟨D', dc', h1, h2⟩ := h.2 n k' a' y' bs' hn
    refine ⟨D', dc', fun j hj => ?_, h2⟩
    rw [List.getElem?_append_left (by rw [h.1]; omega)]
    exact h1 j hj
  · have hn' : n = aks.length := by
      have := (List.getElem?_eq_some_iff.1 hn).1
      rw [List.length_append, List.length_singleton] at this
      omega
    subst hn'
    rw [List.getElem?_append_right (Nat.le_refl _), Nat.sub_self] at hn
    have e := Option.some.inj hn
    injection e with e1 e
    injection e with e2 e
    injection e with e3 e4
    subst e1 e2 e3 e4
    refine ⟨D, dc, fun j hj => ?_, hd⟩
    rw [List.getElem?_append_right (by rw [h.1]; omega), h.1, show aks.length * 4 + j - aks.length * 4 = j by omega]
/-- the statement's memory -/
structure LastW (w0 w : World) (C P g base : Nat) (cfg : Array Value) (A : Option Addr) (ca : Nat) (B : Option Addr) (cb : Nat) (ys : Ys) (gs : List GoTy.T) (vs : List (List UInt8)) (v : Value) (vals : List Value) (aks : List AskV) : Prop where
  t : Below w0.heap.size w0 w
  ord : w0.heap.size ≤ C ∧ C < P ∧ P < g ∧ g < base ∧ base ≤ w.heap.size
  cfb : BoxOf w C cfg 24
  pb : BoxOf w P #[.slice A ys.length ca, .slice B gs.length cb] 28
  my : RdIn w (Free w P g v) (.sl (.sl (.sl .byte))) ys [.slice A ys.length ca]
  mg : RdIn w (Free w P g v) (.sl GoTy) gs [.slice B gs.length cb]
  nw : NowS w (Free w P g v) g vs
  own : w.ownsRow base 58 4 v aks.length vals
  av : AskAt w0 vals aks
section
variable {w0 w : World} {C P g base : Nat} {cfg : Array Value} {A : Option Addr} {ca : Nat} {B : Option Addr} {cb : Nat} {ys : Ys} {gs : List GoTy.T} {vs : List (List UInt8)} {v : Value} {vals : List Value} {aks : List AskV}
theorem Free.next {w w' : World} {P g : Nat} {v : Value} {b : Nat} (h : Free w P g v b) (hs : w.heap.size ≤ w'.heap.size) : Free w' P g v b := ⟨Nat.lt_of_lt_of_le h.1 hs, h.2⟩
theorem LastW.lts (h : LastW w0 w C P g base cfg A ca B cb ys gs vs v vals aks) : C < w.heap.size ∧ P < w.heap.size ∧ g < w.heap.size := by have := h.ord; omega
theorem LastW.row (h : LastW w0 w C P g base cfg A ca B cb ys gs vs v vals aks) {k : Nat} (hk : v.ownBlock = some k) : base ≤ k ∧ k < w.heap.size := ⟨own_block h.own hk, own_lt h.own hk⟩
theorem LastW.old (h : LastW w0 w C P g base cfg A ca B cb ys gs vs v vals aks) {b : Nat} (hb : b < w0.heap.size) : Free w P g v b := by
  have h1 := h.ord
  refine ⟨by omega, by omega, by omega, fun e => ?_⟩
  have := (h.row e).1
  omega
/-- new memory is free -/
theorem LastW.fresh (h : LastW w0 w C P g base cfg A ca B cb ys gs vs v vals aks) {w' : World} {m : Nat} (hm : w.heap.size ≤ m) {b : Nat} (hb : NewB m w' b) : Free w' P g v b := by
  have h1 := h.ord
  have h2 := hb.1
  refine ⟨hb.2.1, by omega, by omega, fun e => ?_⟩
  have := (h.row e).2
  omega
theorem LastW.next (h : LastW w0 w C P g base cfg A ca B cb ys gs vs v vals aks) {w' : World} (hb : Below w.heap.size w w') : LastW w0 w' C P g base cfg A ca B cb ys gs vs v vals aks where
  t := Ext.trans h.t hb
  ord := by have := h.ord; have := hb.size; omega
  cfb := h.cfb.next hb
  pb := h.pb.next hb
  my := (h.my.below hb).mono fun b h => h.next hb.size
  mg := (h.mg.below hb).mono fun b h => h.next hb.size
  nw := h.nw.frame (hb.block _ h.lts.2.2) (fun b h' => hb.block b h'.1) (fun b h => h.next hb.size) (fun h' => h'.2.2.1 rfl)
  own := own_next h.own hb
  av := h.av
/-- the plain array turns -/
theorem LastW.plain (h : LastW w0 w C P g base cfg A ca B cb ys gs vs v vals aks) {A' : Option Addr} {ca' : Nat} {B' : Option Addr} {cb' : Nat} {zs : Ys} {hs : List GoTy.T} {w' : World} (hw : w' = w.setRow P #[.slice A' zs.length ca', .slice B' hs.length cb'])
    (hy : RdIn w (Free w P g v) (.sl (.sl (.sl .byte))) zs [.slice A' zs.length ca']) (hg : RdIn w (Free w P g v) (.sl GoTy) hs [.slice B' hs.length cb']) : LastW w0 w' C P g base cfg A' ca' B' cb' zs hs vs v vals aks := by
  subst hw
  have hsz : (w.setRow P #[.slice A' zs.length ca', .slice B' hs.length cb']).heap.size = w.heap.size := setRow_size _ _ _
  have ho := h.ord
  have hel : ∀ b, Free w P g v b → (w.setRow P #[.slice A' zs.length ca', .slice B' hs.length cb']).heap[b]? = w.heap[b]? := fun b hb => setRow_other w P b _ (fun e => hb.2.1 e)
  have hF : ∀ b, Free w P g v b → Free (w.setRow P #[.slice A' zs.length ca', .slice B' hs.length cb']) P g v b := fun b hb => hb.next (Nat.le_of_eq hsz.symm)
  refine ⟨below_setRow h.t (by omega) _, by rw [hsz]; exact ho, h.cfb.other (by omega) _, h.pb.set _, (hy.frame hel).mono hF, (hg.frame hel).mono hF, h.nw.frame (setRow_other w P g _ (by omega)) hel hF (fun h' => h'.2.2.1 rfl), own_frame h.own (fun r hr => setRow_other w P r _ (by have := (h.row hr).1; omega)), h.av⟩
/-- the values turn -/
theorem LastW.vals' (h : LastW w0 w C P g base cfg A ca B cb ys gs vs v vals aks) {w' : World} {By : Nat → Prop} {us : List (List UInt8)} (hg : w.grownBy w' (some g)) (hB : ∀ b, By b → Free w P g v b ∨ NewB w.heap.size w' b) (hn : NowS w' By g us) : LastW w0 w' C P g base cfg A ca B cb ys gs us v vals aks := by
  have ho := h.ord
  have hel : ∀ b, Free w P g v b → w'.heap[b]? = w.heap[b]? := fun b hb => hg.block b hb.1 (fun e => hb.2.2.1 (Option.some.inj e))
  have hF : ∀ b, Free w P g v b → Free w' P g v b := fun b hb => hb.next hg.size
  have hng : ∀ k, k < w.heap.size → k ≠ g → w'.heap[k]? = w.heap[k]? := fun k hk hne => hg.block k hk (fun e => hne (Option.some.inj e))
  refine ⟨Below.grown h.t hg (by omega) (fun k e => by have := Option.some.inj e; omega), by have := hg.size; omega, h.cfb.grown hg (fun e => by have := Option.some.inj e; omega), h.pb.grown hg (fun e => by have := Option.some.inj e; omega), (h.my.frame hel).mono hF, (h.mg.frame hel).mono hF, ?_, own_frame h.own (fun r hr => hng r (h.row hr).2 (by have := (h.row hr).1; omega)), h.av⟩
  obtain ⟨cur, h1, h2, h3, h4⟩ := hn
  refine ⟨cur, h1, fun h' => h'.2.2.1 rfl, h3, fun k hk => ?_⟩
  obtain ⟨A, c, h5, h6⟩ := h4 k hk
  exact ⟨A, c, h5, h6.mono fun b hb => (hB b hb).elim (hF b) (fun h' => h.fresh (Nat.le_refl _) h')⟩
/-- one more request was asked -/
theorem LastW.ask (h : LastW w0 w C P g base cfg A ca B cb ys gs vs v vals aks) {w' : World} {v' : Value} {ki : UInt8} {a y : Int} {bs : List UInt8} {D : Option Addr} {dc n : Nat} (hg : w.grownBy w' v.ownBlock) (hv : v'.ownBlock = v.ownBlock ∨ v'.ownBlock = some w.heap.size) (hn : n = aks.length + 1)
    (ho : w'.ownsRow base 58 4 v' n (vals ++ [.int .u8 (ki.toNat : Int), .int .i64 a, .int .i64 y, .slice D bs.length dc])) (hd : RdIn w0 (fun b => b < w0.heap.size) (.sl .byte) bs [.slice D bs.length dc]) :
    LastW w0 w' C P g base cfg A ca B cb ys gs vs v' (vals ++ [.int .u8 (ki.toNat : Int), .int .i64 a, .int .i64 y, .slice D bs.length dc]) (aks ++ [(ki, a, y, bs)]) := by
  have hord := h.ord
  have hel : ∀ b, Free w P g v b → w'.heap[b]? = w.heap[b]? := fun b hb => hg.block b hb.1 (fun e => hb.2.2.2 e.symm)
  have hF : ∀ b, Free w P g v b → Free w' P g v' b := fun b hb => by
    refine ⟨Nat.lt_of_lt_of_le hb.1 hg.size, hb.2.1, hb.2.2.1, fun e => ?_⟩
    rcases hv with h1 | h1
    · rw [h1] at e; exact hb.2.2.2 e
    · rw [h1] at e
      have := Option.some.inj e
      have := hb.1
      omega
  have hne : ∀ k, k < base → v.ownBlock ≠ some k := fun k hk e => by have := (h.row e).1; omega
  refine ⟨Below.grown h.t hg (by omega) (fun k e => by have := (h.row e).1; omega), by have := hg.size; omega, h.cfb.grown hg (hne _ (by omega)), h.pb.grown hg (hne _ (by omega)), (h.my.frame hel).mono hF, (h.mg.frame hel).mono hF, h.nw.frame (hg.block g (by omega) (fun e => hne g (by omega) e.symm)) hel hF (fun h' => h'.2.2.1 rfl), ?_, h.av.push hd⟩
  rw [List.length_append, List.length_singleton, ← hn]
  exact ho
/-- a request, as it stands in memory -/
theorem LastW.asked (h : LastW w0 w C P g base cfg A ca B cb ys gs vs v vals aks) {n : Nat} {ki : UInt8} {a y : Int} {bs : List UInt8} (hn : aks[n]? = some (ki, a, y, bs)) :
    ∃ (q cap : Nat) (D : Option Addr) (dc : Nat), v = .slice (some ⟨q, 0, none⟩) aks.length cap ∧ n < aks.length ∧ (∀ j, j < 4 → w.cell? ⟨q, n * 4 + j, none⟩ = [Value.int .u8 (ki.toNat : Int), .int .i64 a, .int .i64 y, .slice D bs.length dc][j]?) ∧ RdIn w (Free w P g v) (.sl .byte) bs [.slice D bs.length dc] ∧ q < w.heap.size := by
  have hl := (List.getElem?_eq_some_iff.1 hn).1
  obtain ⟨q, cap, cur, h1, h2, h3, h4, h5, h6, h7⟩ := own_view h.own (by omega)
  obtain ⟨D, dc, h8, h9⟩ := h.av.2 n ki a y bs hn
  refine ⟨q, cap, D, dc, h1, hl, fun j hj => ?_, (h9.below h.t).mono fun b hb => h.old hb, h3.lt⟩
  rw [h3.cell, h7 _ (by omega), h8 j hj]
end
end Go.Proofs.Ytclbihcggjjgaaa
/- Layer 30 (model): ModelLast: whatever begins, ends and crashes. -/
namespace Go.Proofs.Ytclbihcggjjgaaa
open Go Go.RowKit
set_option linter.unusedSimpArgs false
set_option linter.unusedVariables false

theorem zeros_step (j : Nat) : @Eq (List (Ty.sl .byte).T) (List.replicate (j + 1) zeros) (List.replicate j zeros ++ [zeros]) := List.replicate_succ'
theorem nows_start {w : World} {base : Nat} {v : Value} {n : Nat} (hn : 0 < n) (h : OwnL w base 29 (.sl .byte) v (List.replicate n zeros)) : ∃ g cap, v = .slice (some ⟨g, 0, none⟩) n cap ∧ base ≤ g ∧ g < w.heap.size ∧ NowS w (Fresh w base v) g (List.replicate n zeros) := by
  obtain ⟨ess, h1, h2, h3⟩ := h
  have hl : (List.replicate n zeros).length = n := List.length_replicate
  have hl2 : @List.length (Ty.sl .byte).T (List.replicate n zeros) = n := hl
  rw [hl2] at h1 h3
  obtain ⟨g, cap, cur, rfl, h4, h5, h6, h7, h8, h9⟩ := own_view h3 hn
  have h8' : cur.size = cap := by rw [h8]; exact Nat.mul_one cap
  refine ⟨g, cap, rfl, h4, h5.lt, cur, h5, fun hf => hf.2.2.1 rfl, by rw [hl, h8']; exact h6, fun k hk => ?_⟩
  have hk' : k < n := by rw [hl] at hk; exact hk
  have hke : k < ess.length := by rw [h1]; exact hk'
  have r1 := h2 k (by rw [hl2]; exact hk') hke
  have r2 : RdIn w (Fresh w base (.slice (some ⟨g, 0, none⟩) n cap)) (.sl .byte) (List.replicate n zeros)[k] ess[k] := r1
  have hes : ∀ es ∈ ess, es.length = 1 := by
    intro es he
    obtain ⟨i, hi, rfl⟩ := List.getElem_of_mem he
    exact (h2 i (by rw [hl2, ← h1]; exact hi) hi).len
  obtain ⟨A, c, h10, h11⟩ := rdin_sl.1 r2
  rw [h10] at r2
  exact ⟨A, c, (h9 k (by show k < n * 1; omega)).trans (getElem?_one hes hke h10), r2⟩

theorem set2_row {w : World} {g : Nat} {u v : Value} {t : TypeId} (hb : BoxOf w g #[u, v] t) (a b : Value) : (w.setCell ⟨g, 0, none⟩ a).setCell ⟨g, 1, none⟩ b = w.setRow g #[a, b] := by
  have hh : w.heap[g]? = some (.cells #[u, v] t (0, 0)) := hb
  have e : ((w.setCell ⟨g, 0, none⟩ a).setCell ⟨g, 1, none⟩ b).heap = (w.setRow g #[a, b]).heap := by
    apply Array.ext_getElem?
    intro i
    unfold World.setCell World.setRow
    simp only [Array.getElem?_modify]
    by_cases e : g = i
    · subst e
      simp [hh]
    · simp [e]
  unfold World.setCell World.setRow at *
  simp only at e
  rw [e]
theorem Free.asked {w w' : World} {P g b : Nat} {v v' : Value} (hb : Free w P g v b) (hg : w.grownBy w' v.ownBlock) (hv : v'.ownBlock = v.ownBlock ∨ v'.ownBlock = some w.heap.size) : Free w' P g v' b := by
  refine ⟨Nat.lt_of_lt_of_le hb.1 hg.size, hb.2.1, hb.2.2.1, fun e => ?_⟩
  rcases hv with h1 | h1
  · rw [h1] at e; exact hb.2.2.2 e
  · rw [h1] at e
    have := Option.some.inj e
    have := hb.1
    omega
theorem rdin_asked {w w' : World} {P g : Nat} {v v' : Value} {t : Ty} {x : t.T} {cs : List Value} (h : RdIn w (Free w P g v) t x cs) (hg : w.grownBy w' v.ownBlock) (hv : v'.ownBlock = v.ownBlock ∨ v'.ownBlock = some w.heap.size) : RdIn w' (Free w' P g v') t x cs :=
  (h.frame fun b hb => hg.block b hb.1 (fun e => hb.2.2.2 e.symm)).mono fun b hb => hb.asked hg hv
theorem rdin_told {w w' : World} {P g : Nat} {v : Value} {t : Ty} {x : t.T} {cs : List Value} (h : RdIn w (Free w P g v) t x cs) (hg : w.grownBy w' (some g)) : RdIn w' (Free w' P g v) t x cs :=
  (h.frame fun b hb => hg.block b hb.1 (fun e => hb.2.2.1 (Option.some.inj e))).mono fun b hb => hb.next hg.size
theorem rdin_two {w : World} {S : Nat → Prop} {t : Ty} {x : t.T} {cs : List Value} (h : RdIn w S t x cs) {k : Nat} (hk : ∀ b, S b → b ≠ k) (u v : Value) : RdIn ((w.setCell ⟨k, 0, none⟩ u).setCell ⟨k, 1, none⟩ v) S t x cs := (h.setElse hk 0 u).setElse hk 1 v
theorem two_size (w : World) (k : Nat) (u v : Value) : ((w.setCell ⟨k, 0, none⟩ u).setCell ⟨k, 1, none⟩ v).heap.size = w.heap.size := by rw [msize, msize]
theorem below_two {w w' : World} {B : Nat} (h : Below B w w') {k : Nat} (hk : B ≤ k) (u v : Value) : Below B w ((w'.setCell ⟨k, 0, none⟩ u).setCell ⟨k, 1, none⟩ v) := Below.setCell (p := ⟨k, 1, none⟩) (Below.setCell (p := ⟨k, 0, none⟩) h hk u) hk v
theorem box_two {w : World} {g k : Nat} {cs : Array Value} {t : TypeId} (h : BoxOf w g cs t) (hk : g ≠ k) (u v : Value) : BoxOf ((w.setCell ⟨k, 0, none⟩ u).setCell ⟨k, 1, none⟩ v) g cs t := mbox_else (mbox_else h hk 0 u) hk 1 v
theorem box_self2 {w : World} {k : Nat} {a b : Value} {t : TypeId} (h : BoxOf w k #[a, b] t) (u v : Value) : BoxOf ((w.setCell ⟨k, 0, none⟩ u).setCell ⟨k, 1, none⟩ v) k #[u, v] t := mbox_self (mbox_self h 0 u) 1 v
theorem dat_apart {w : World} {m g : Nat} {w' : World} {dat : List UInt8} {D : Option Addr} {dq : Nat} (h : RdIn w' (NewB m w) (.sl .byte) dat [.slice D dat.length dq]) (hg : g < m) : ∀ b o, D = some ⟨b, o, none⟩ → dat = [] ∨ b ≠ g := by
  intro b o e
  obtain ⟨A, c, e1, _, _, _, h1⟩ := rdin_sl.1 h
  injection e1 with e1 _
  injection e1 with e1 _ _
  rcases h1 with h1 | ⟨b', o', e2, hS, _⟩
  · exact .inl h1
  · rw [← e1, e] at e2
    injection e2 with e2
    injection e2 with e2 e3
    have := hS.1
    exact .inr (by omega)
theorem take_set {left vs : List (List UInt8)} {q : Nat} (hl : left.length = vs.length) (hq : q < left.length) : (left.take q ++ vs.drop q).set q left[q] = left.take (q + 1) ++ vs.drop (q + 1) := by
  rw [List.set_append_right _ _ (by rw [List.length_take]; omega), List.length_take, show q - min q left.length = 0 by omega, List.drop_eq_getElem_cons (by omega), List.set_cons_zero, List.take_succ_eq_append_getElem hq, List.append_assoc]
  rfl
/-- what a crash to picked blocks answers -/
def CraIs (base N : Nat) (left : List (List UInt8)) (e : Ending) (w : World) : Prop := ∃ A' c', e = .returned (.tuple #[.agg #[.slice A' N c', .slice none 0 0], .int .i64 0]) ∧ RdIn w (NewB base w) (.sl (.sl (.sl .byte))) (ones left) [.slice A' N c']
theorem LastW.plain0 {w0 w : World} {C P g base : Nat} {cfg : Array Value} {A : Option Addr} {ca : Nat} {B : Option Addr} {cb : Nat} {ys : Ys} {gs : List GoTy.T} {vs : List (List UInt8)} {v : Value} {vals : List Value} {aks : List AskV} (h : LastW w0 w C P g base cfg A ca B cb ys gs vs v vals aks) {A' : Option Addr} {ca' N : Nat} {zs : Ys} {w' : World} (hN : zs.length = N) (hw : w' = w.setRow P #[.slice A' N ca', .slice none 0 0])
    (hy : RdIn w (Free w P g v) (.sl (.sl (.sl .byte))) zs [.slice A' N ca']) : LastW w0 w' C P g base cfg A' ca' none 0 zs [] vs v vals aks := by
  subst hN
  exact h.plain (B' := none) (cb' := 0) (hs := []) hw hy (rdin_nilg _ _)
theorem LastW.start {w0 w : World} {C P g base n cap : Nat} {cfg : Array Value} {A : Option Addr} {ca : Nat} {ys : Ys} {vs : List (List UInt8)} {S : Nat → Prop} (t : Below w0.heap.size w0 w) (h1 : w0.heap.size ≤ C) (h2 : C < P) (h3 : P < base) (h4 : base ≤ g) (h5 : g < w.heap.size) (cfb : BoxOf w C cfg 24) (pb : BoxOf w P #[.slice A ys.length ca, .slice none 0 0] 28)
    (my : RdIn w S (.sl (.sl (.sl .byte))) ys [.slice A ys.length ca]) (hS : ∀ b, S b → b < P) (nw : NowS w (Fresh w base (.slice (some ⟨g, 0, none⟩) n cap)) g vs) : LastW w0 w C P g w.heap.size cfg A ca none 0 ys [] vs (.slice none 0 0) [] [] where
  t := t
  ord := ⟨h1, h2, by omega, h5, Nat.le_refl _⟩
  cfb := cfb
  pb := pb
  my := my.mono fun b hb => ⟨by have := hS b hb; omega, by have := hS b hb; omega, by have := hS b hb; omega, fun e => by cases e⟩
  mg := rdin_nilg _ _
  nw := nw.frame rfl (fun _ _ => rfl) (fun b hb => ⟨hb.2.1, by have := hb.1; omega, fun e => hb.2.2.1 (by rw [e]; rfl), fun e => by cases e⟩) (fun h' => h'.2.2.1 rfl)
  own := ⟨rfl, .inl ⟨rfl, rfl⟩⟩
  av := AskAt.nil w0
theorem isInt_few {n : Nat} (h : n ≤ 41) : IsInt ((n : Nat) : Int) := by unfold IsInt; omega
theorem LastI.pos {x : Cfg} {ys : Ys} {gs : List GoTy.T} {vs : List (List UInt8)} {aks : List AskV} (h : LastI x ys gs vs aks) : 0 < ys.length := by
  have h1 := h.ok.len
  have h2 := h.ok.cfg
  have h3 := Cfg.crm h2
  omega

set_option maxRecDepth 100000 in
set_option maxHeartbeats 4000000 in
theorem last_core (x : Cfg) (ds : List DeedTy.T) (L : Option Addr) (lc : Nat) (w : World) (hds : RdIn w (fun b => b < w.heap.size) (.sl DeedTy) ds [.slice L ds.length lc]) :
    Calls Try.prog 8 #[x.val, .slice L ds.length lc] w fun e w' => e = .returned (.bool true) ∧ Below w.heap.size w w' := by
  obtain ⟨ib, hib, hb0, hb1, hb2⟩ := minfo_bytes
  obtain ⟨ia, hia, ha0, ha1, ha2⟩ := minfo_ask
  have HD := Lib.hid hds
  obtain ⟨dn, hdn⟩ : ∃ z, z = ds.length := ⟨_, rfl⟩
  have HDN := Lib.hid hdn
  obtain ⟨X, HX⟩ : ∃ X, Hid (X = x) := ⟨x, rfl⟩
  have HNEW : Hid (∀ w', Calls Try.prog 29 #[x.val] w' fun e w'' => NewIs w'.heap.size X e w'' ∧ Below w'.heap.size w' w'') := fun w' => by rw [HX.out]; exact snew_any x w'
  have HLONG : Hid (∀ w', Below w.heap.size w w' → Calls Try.prog 37 #[.slice L dn lc] w' fun e w'' => LongIs dn e ∧ Below w'.heap.size w' w'') := fun w' b => by rw [hdn]; exact long_any _ ds L lc w' (hds.below b)
  rw [← hdn]
  clear hdn
  have HBEG : Hid (∀ (S : Nat → Prop) (ys : Ys) (gs : List GoTy.T) (A : Option Addr) (ca : Nat) (B : Option Addr) (cb : Nat) (number : Int), IsInt number → ∀ (ki : UInt8) (a y : Int) (D : Option Addr) (dc : Nat) (bs : List UInt8) (w' : World), RdIn w' S (.sl (.sl (.sl .byte))) ys [.slice A ys.length ca] → RdIn w' S (.sl GoTy) gs [.slice B gs.length cb] → RdIn w' S (.sl .byte) bs [.slice D bs.length dc] → Calls Try.prog 24 #[x.val, .agg #[.slice A ys.length ca, .slice B gs.length cb], .int .i64 number, .agg #[.int .u8 (ki.toNat : Int), .int .i64 a, .int .i64 y, .slice D bs.length dc]] w' fun e w'' => BegIs w'.heap.size X ys gs number ki a y bs e w'' ∧ Below w'.heap.size w' w'') := by
    intro S ys gs A ca B cb number hn ki a y D dc bs w' h1 h2 h3
    rw [HX.out]
    exact sbegin_any S x ys gs A ca B cb number hn ki a y D dc bs w' h1 h2 h3
  have HEND : Hid (∀ (S : Nat → Prop) (ys : Ys) (gs : List GoTy.T) (A : Option Addr) (ca : Nat) (B : Option Addr) (cb : Nat) (number : Int) (w' : World), RdIn w' S (.sl (.sl (.sl .byte))) ys [.slice A ys.length ca] → RdIn w' S (.sl GoTy) gs [.slice B gs.length cb] → Calls Try.prog 23 #[x.val, .agg #[.slice A ys.length ca, .slice B gs.length cb], .int .i64 number] w' fun e w'' => EndIs w'.heap.size X ys gs number e w'' ∧ Below w'.heap.size w' w'') := by
    intro S ys gs A ca B cb number w' h1 h2
    rw [HX.out]
    exact send0_any S x ys gs A ca B cb number w' h1 h2
  have HCRA : Hid (∀ (S : Nat → Prop) (ys : Ys) (gs : List GoTy.T) (vs : List (List UInt8)) (aks : List AskV) (A : Option Addr) (ca : Nat) (B : Option Addr) (cb : Nat) (D : Option Addr) (dc N : Nat) (left : List (List UInt8)) (w' : World), LastI X ys gs vs aks → left.length = ys.length → left.length = N → Pick ys left → RdIn w' S (.sl (.sl (.sl .byte))) ys [.slice A ys.length ca] → RdIn w' S (.sl GoTy) gs [.slice B gs.length cb] → RdIn w' S (.sl (.sl .byte)) left [.slice D left.length dc] → Calls Try.prog 13 #[x.val, .agg #[.slice A ys.length ca, .slice B gs.length cb], .slice D N dc] w' fun e w'' => CraIs w'.heap.size N left e w'' ∧ Below w'.heap.size w' w'') := by
    intro S ys gs vs aks A ca B cb D dc N left w' hi hl hN hp h1 h2 h3
    subst hN
    refine Calls.mono (scrash_any S x ys gs A ca B cb D dc left w' h1 h2 h3) ?_
    rintro e w'' ⟨⟨v, A', c', rfl, hr, hv⟩, b⟩
    rw [HX.out] at hi
    obtain rfl := crash_pick hi.ok hl hp hr
    have e1 : crashVal 0 left = ones left := if_pos rfl
    rw [e1, ones_len] at hv
    rw [e1, ones_len]
    exact ⟨⟨A', c', rfl, hv⟩, b⟩
  have HCHK : Hid (∀ (S : Nat → Prop) (ys : Ys) (gs : List GoTy.T) (vs : List (List UInt8)) (aks : List AskV) (A : Option Addr) (ca : Nat) (B : Option Addr) (cb : Nat) (w' : World), LastI X ys gs vs aks → RdIn w' S (.sl (.sl (.sl .byte))) ys [.slice A ys.length ca] → RdIn w' S (.sl GoTy) gs [.slice B gs.length cb] → Calls Try.prog 18 #[x.val, .agg #[.slice A ys.length ca, .slice B gs.length cb]] w' fun e w'' => e = .returned (.int .i64 0) ∧ Below w'.heap.size w' w'') := by
    intro S ys gs vs aks A ca B cb w' hi h1 h2
    refine Calls.mono (spcheck_any S x ys gs A ca B cb w' h1 h2) ?_
    rintro e w'' ⟨h3 | h3, b⟩
    · exact ⟨h3.2, b⟩
    · rw [HX.out] at hi
      exact absurd hi.ok h3.1
  have HCHZ : Hid (∀ (S : Nat → Prop) (zs : Ys) (vs : List (List UInt8)) (aks : List AskV) (A : Option Addr) (ca N : Nat) (w' : World), LastI X zs [] vs aks → zs.length = N → RdIn w' S (.sl (.sl (.sl .byte))) zs [.slice A N ca] → Calls Try.prog 18 #[x.val, .agg #[.slice A N ca, .slice none 0 0]] w' fun e w'' => e = .returned (.int .i64 0) ∧ Below w'.heap.size w' w'') := by
    intro S zs vs aks A ca N w' hi hN h1
    subst hN
    exact HCHK.out S zs [] vs aks A ca none 0 w' hi h1 (rdin_nilg _ _)
  clear hds
  obtain ⟨id, m, c, r, l, h⟩ := x
  unfold Cfg.val at *
  dsimp only at *
  have C0 := BoxOf.new w #[.int .u32 (id : Int), .int .i64 m, .int .i64 c, .int .i64 r, .int .i64 l, .int .i64 h] 24
  have t0 := Ext.alloc (Below.refl w.heap.size w) (.cells #[.int .u32 (id : Int), .int .i64 m, .int .i64 c, .int .i64 r, .int .i64 l, .int .i64 h] 24)
  go_enter Try.func8, Try.ntmps8
  go_upto_region 1 with fail
  generalize w.alloc (.cells #[.int .u32 (id : Int), .int .i64 m, .int .i64 c, .int .i64 r, .int .i64 l, .int .i64 h] 24) = W at *
  go_wp2_with fail
  refine (alive30_any _).mono ?_
  rintro e wa ⟨rfl, ba⟩
  have Ca := C0.next ba
  have ta := Ext.trans t0 ba
  have ya := Ca.cell
  clear C0 t0 ba
  go_wp2_with fail
  refine (HNEW.out _).mono ?_
  rintro e w2 ⟨⟨v, ys, A, ca, rfl, hnr, my⟩, b2⟩
  have P3 := BoxOf.new w2 #[.slice A ys.length ca, .slice none 0 0] 28
  have b23 := Ext.alloc (Below.refl w2.heap.size w2) (.cells #[.slice A ys.length ca, .slice none 0 0] 28)
  have C3 := (Ca.next b2).next b23
  have t3 := Ext.trans (Ext.trans ta b2) b23
  have HRY := Lib.hid (my.below b23)
  have HWA : Hid (w.heap.size < wa.heap.size) := Ca.lt
  have HA2 : Hid (wa.heap.size ≤ w2.heap.size) := b2.size
  have HNR := Lib.hid hnr
  clear ya Ca ta b2 b23 my hnr
  go_upto_region 3 with fail
  obtain ⟨P, hPe⟩ : ∃ z : Nat, z = w2.heap.size := ⟨_, rfl⟩
  have HPE := Lib.hid hPe
  rw [← hPe] at P3 ⊢
  clear hPe
  generalize w2.alloc (.cells #[.slice A ys.length ca, .slice none 0 0] 28) = w3 at *
  have c3 := C3.cell
  have p3 := P3.cell
  go_wp2_with fail
  refine (HLONG.out _ t3).mono ?_
  rintro e w4 ⟨⟨b, rfl, hl40⟩, b4⟩
  have C4 := C3.next b4
  have P4 := P3.next b4
  have t4 := Ext.trans t3 b4
  have HY4 := Lib.hid (HRY.out.below b4)
  have HP4 : Hid (P < w4.heap.size) := P4.lt
  have p4 := P4.cell
  have HL40 := Lib.hid hl40
  clear c3 p3 C3 P3 t3 b4 HRY hl40
  cases b with
  | true =>
    go_wp2
    go_ret
    exact ⟨rfl, t4⟩
  | false =>
    have H40 := Lib.hid (HL40.out rfl)
    rcases Bool.eq_false_or_eq_true (v != 0) with e1 | e1
    · go_wp2
      go_ret
      exact ⟨rfl, t4⟩
    · rcases Bool.eq_false_or_eq_true (decide ((100 : Int) < (ys.length : Int))) with e2 | e2
      · go_wp2
        go_ret
        exact ⟨rfl, t4⟩
      · have hv0 : v = 0 := by simpa using e1
        have HR0 : Hid (NewRel X 0 ys) := by have h := HNR.out; rw [hv0] at h; exact h
        have H100 : Hid (ys.length ≤ 100) := by have := of_decide_eq_false e2; show _ ≤ _; omega
        have HT4 := Lib.hid t4
        go_wp2
        clear e1 e2 p4 hv0
        obtain ⟨N, hN⟩ : ∃ N, N = ys.length := ⟨_, rfl⟩
        have HNE := Lib.hid hN
        rw [← hN] at P4
        clear hN t4
        go_loopw [8, 9] (fun v i wr => ∃ (j : Nat), j ≤ N ∧ i = .int .i64 j ∧ Below w4.heap.size w4 wr ∧ OwnL wr w4.heap.size 29 (.sl .byte) v (List.replicate j zeros)) (fun _ i _ => N - (intOf i).toNat)
        case atStart => exact ⟨0, by omega, rfl, Below.refl _ _, OwnL.nil _ _ _ _⟩
        case round =>
          obtain ⟨j, hj, rfl, b5, O5⟩ := hrel
          have p5 := (P4.next b5).cell
          by_cases hlt : j < N
          · have HWJ := next_wrap (show N ≤ maxLen by have := H100.out; have := HNE.out; unfold maxLen; omega) hlt
            have HLT := Lib.hid hlt
            have HOL := Lib.hid (OwnL.lt O5)
            have HS5 := Lib.hid b5.size
            have HBY : Hid (j + 1 ≤ maxLen ∧ (j + 1) * 24 ≤ 140737488355328) := by
              have h1 := H100.out
              have h2 := HNE.out
              show _ ∧ _
              unfold maxLen
              omega
            have HLL : Hid (@List.length (Ty.sl .byte).T (List.replicate j zeros) = j) := List.length_replicate
            go_wp2_with fail
            have h0 := full_any 0 wr
            have e0 : (((0 : UInt8).toNat : Nat) : Int) = 0 := rfl
            rw [e0] at h0
            refine h0.mono ?_
            rintro e w6 ⟨⟨gf, rfl, rf⟩, b6⟩
            have bb := Ext.alloc (Below.refl w6.heap.size w6) (.cells #[.slice (some ⟨gf, 0, none⟩) 128 128] 29)
            have O7 := (O5.next b6).next bb
            have f7 := own_apart2 rf HOL.out HS5.out (.cells #[.slice (some ⟨gf, 0, none⟩) 128 128] 29)
            have rd := rd_one w6 (.slice (some ⟨gf, 0, none⟩) 128 128) 29
            have t7 := Ext.trans (Ext.trans b5 b6) bb
            have HS7 := Lib.hid t7.size
            clear h0 e0 rf b6 bb O5 b5 p5 hlt
            go_wp2_with (at_builtin; refine wpList_push rfl (.tmp 50) (.tmp 52) 30 rfl w4.heap.size 29 ib _ 24 (.sl .byte) Try.underlying30 hib hb0 hb1 hb2 rfl (by decide) _ (List.replicate j zeros) rfl O7 _ 1 _ rfl rd zeros f7 (by rw [HLL.out]; exact HBY.out.1) (by rw [HLL.out]; exact HBY.out.2) HS7.out ?_; intro v8 w8 O8 g8 k8; have t8 := Below.grown t7 g8 HS7.out k8; clear O7 f7 rd t7)
            go_roundw
            case rel => exact ⟨j + 1, HLT.out, (by first | exact round_same HWJ | go_num), t8, OwnL.cast (zeros_step j).symm O8⟩
            case measure => first | exact round_less HWJ HLT.out | (have h := HLT.out; simp [intOf]; omega)
          · have hje : j = N := by omega
            have HI0 := Lib.hid (LastI.start HR0.out)
            have hn0 : 0 < N := by rw [HNE.out]; exact HI0.out.pos
            subst hje
            obtain ⟨g, cap, rfl, hg1, hg2, NW⟩ := nows_start hn0 O5
            have HW0 : Hid (LastW w wr w.heap.size P g wr.heap.size #[.int .u32 (id : Int), .int .i64 m, .int .i64 c, .int .i64 r, .int .i64 l, .int .i64 h] A ca none 0 ys [] (List.replicate ys.length zeros) (.slice none 0 0) [] []) := by
              refine LastW.start (n := j) (cap := cap) (Ext.trans HT4.out b5) (Nat.le_refl _) (by rw [HPE.out]; have := HWA.out; have := HA2.out; omega) HP4.out hg1 hg2 (C4.next b5) ?_ (HY4.out.below b5) (fun b hb => by rw [HPE.out]; exact hb.2.1) ?_
              · have h := P4.next b5
                rw [HNE.out] at h
                exact h
              · rw [← HNE.out]
                exact NW
            have hnle : ¬ (j : Int) < (j : Int) := by omega
            clear hj hg1 hg2 NW O5 C4 P4 hn0 b5
            obtain ⟨wo, rfl⟩ : ∃ z : World, z = wr := ⟨_, rfl⟩
            go_wp2
            clear p5 hnle hlt
            go_loopw [10, 11] (fun v i wr => ∃ (k : Nat) (ys : Ys) (gs : List GoTy.T) (A : Option Addr) (ca : Nat) (B : Option Addr) (cb : Nat) (vs : List (List UInt8)) (vals : List Value) (aks : List AskV), k ≤ dn ∧ i = .int .i64 k ∧ aks.length ≤ k ∧ vs.length = j ∧ Hid (LastI X ys gs vs aks) ∧ Hid (LastW w wr w.heap.size P g wo.heap.size #[.int .u32 (id : Int), .int .i64 m, .int .i64 c, .int .i64 r, .int .i64 l, .int .i64 h] A ca B cb ys gs vs v vals aks)) (fun _ i _ => dn - (intOf i).toNat)
            case atStart => exact ⟨0, ys, [], A, ca, none, 0, _, [], [], by omega, rfl, Nat.le_refl _, (by rw [List.length_replicate, ← HNE.out]), HI0.out, HW0.out⟩
            case round =>
              clear HW0 HI0 HR0 HNE HNR HY4 HL40 HT4
              obtain ⟨k, ys, gs, A, ca, B, cb, vs, vals, aks, hk, rfl, hal, hvn, HI, HW⟩ := hrel
              have c5 := HW.out.cfb.cell
              have p5 := HW.out.pb.cell
              have HAL := Lib.hid hal
              have HVN := Lib.hid hvn
              by_cases hlt : k < dn
              · obtain ⟨db, dof, kd, ki, a, y, bs, D5, dc, nu, ps, PS, pc, hL, hdd, hint, rbs, rps⟩ := deed_at HD.out (show k < ds.length by rw [← HDN.out]; exact hlt)
                subst hL
                have hq : ∀ q, q < 7 → wr.cell? ⟨db, dof + k * 7 + q, none⟩ = (([.int .u8 (kd.toNat : Int), .int .u8 (ki.toNat : Int), .int .i64 a, .int .i64 y, .slice D5 bs.length dc, .int .i64 nu, .slice PS ps.length pc] : List Value))[q]? := fun q hq => by
                  have h1 := hdd q hq
                  have h2 : ∃ u, w.cell? ⟨db, dof + k * 7 + q, none⟩ = some u := ⟨_, h1.trans (List.getElem?_eq_getElem (by exact hq))⟩
                  obtain ⟨u, h2⟩ := h2
                  exact (HW.out.t.cell (p := ⟨db, dof + k * 7 + q, none⟩) (cell_lt h2)).trans h1
                have q0 : wr.cell? ⟨db, dof + k * 7, none⟩ = some (.int .u8 (kd.toNat : Int)) := hq 0 (by decide)
                have q1 : wr.cell? ⟨db, dof + k * 7 + 1, none⟩ = some (.int .u8 (ki.toNat : Int)) := hq 1 (by decide)
                have q2 : wr.cell? ⟨db, dof + k * 7 + 2, none⟩ = some (.int .i64 a) := hq 2 (by decide)
                have q3 : wr.cell? ⟨db, dof + k * 7 + 3, none⟩ = some (.int .i64 y) := hq 3 (by decide)
                have q4 : wr.cell? ⟨db, dof + k * 7 + 4, none⟩ = some (.slice D5 bs.length dc) := hq 4 (by decide)
                have q5 : wr.cell? ⟨db, dof + k * 7 + 5, none⟩ = some (.int .i64 nu) := hq 5 (by decide)
                have q6 : wr.cell? ⟨db, dof + k * 7 + 6, none⟩ = some (.slice PS ps.length pc) := hq 6 (by decide)
                have HRB := Lib.hid rbs
                have HRP := Lib.hid rps
                have HINT := Lib.hid hint
                have HLT := Lib.hid hlt
                have HWJ := next_wrap (show dn ≤ maxLen by have := H40.out; have := HDN.out; unfold maxLen; omega) hlt
                clear hq hdd rbs rps hint hk hal hvn
                have B5 := Lib.hid (Ext.alloc (Ext.alloc (Below.refl wr.heap.size wr) (.cells #[.int .u8 (kd.toNat : Int), .int .u8 (ki.toNat : Int), .int .i64 a, .int .i64 y, .slice D5 bs.length dc, .int .i64 nu, .slice PS ps.length pc] 81)) (.cells #[.slice A ys.length ca, .slice B gs.length cb] 28))
                have Q12 := BoxOf.alloc (BoxOf.new wr #[.int .u8 (kd.toNat : Int), .int .u8 (ki.toNat : Int), .int .i64 a, .int .i64 y, .slice D5 bs.length dc, .int .i64 nu, .slice PS ps.length pc] 81) (.cells #[.slice A ys.length ca, .slice B gs.length cb] 28)
                have X13 := BoxOf.new' (wr.alloc (.cells #[.int .u8 (kd.toNat : Int), .int .u8 (ki.toNat : Int), .int .i64 a, .int .i64 y, .slice D5 bs.length dc, .int .i64 nu, .slice PS ps.length pc] 81)) (wr.heap.size + 1) #[.slice A ys.length ca, .slice B gs.length cb] 28 (by simp)
                have y12 := Q12.cell
                have HWq := Lib.hid (HW.out.next (Ext.alloc (Below.refl wr.heap.size wr) (.cells #[.int .u8 (kd.toNat : Int), .int .u8 (ki.toNat : Int), .int .i64 a, .int .i64 y, .slice D5 bs.length dc, .int .i64 nu, .slice PS ps.length pc] 81)))
                have p5q := HWq.out.pb.cell
                go_upto_region 16 with fail
                have Q5 := Q12
                generalize (wr.alloc (.cells #[.int .u8 (kd.toNat : Int), .int .u8 (ki.toNat : Int), .int .i64 a, .int .i64 y, .slice D5 bs.length dc, .int .i64 nu, .slice PS ps.length pc] 81)).alloc (.cells #[.slice A ys.length ca, .slice B gs.length cb] 28) = w5 at *
                have HW5 := Lib.hid (HW.out.next B5.out)
                clear q0 q1 q2 q3 q4 q5 q6 c5 p5 Q12 p5q HWq y12
                have c6 := HW5.out.cfb.cell
                have p6 := HW5.out.pb.cell
                obtain ⟨vA, vc, rfl⟩ := own_form HW.out.own
                have HRB5 := Lib.hid (HRB.out.below HW5.out.t)
                have hm0 : ((3 : Int) == 0) = false := rfl
                have y5 := Q5.cell
                rcases (show kd.toNat % 3 = 0 ∨ kd.toNat % 3 = 1 ∨ kd.toNat % 3 = 2 by omega) with hk3 | hk3 | hk3
                · have hm3 : Int.tmod (kd.toNat : Int) 3 = 0 := by rw [show (3 : Int) = ((3 : Nat) : Int) from rfl, tmod_nat (by decide), hk3]; rfl
                  obtain ⟨nb, hnb⟩ : ∃ nb : Int, nb = ((aks.length + 1 : Nat) : Int) := ⟨_, rfl⟩
                  have ha40 : aks.length ≤ 40 := by have := HAL.out; have := HLT.out; have := HDN.out; have := H40.out; omega
                  have hwn : wrap64 ((aks.length : Int) + 1) = nb := by rw [IntWalk.wrap64_in _ (by omega)]; omega
                  have HNB := Lib.hid hnb
                  have HIB : Hid (IsInt nb) := by rw [hnb]; exact isInt_few (Nat.succ_le_succ ha40)
                  have HBG := Lib.hid (HBEG.out _ ys gs A ca B cb nb HIB.out ki a y D5 dc bs w5 HW5.out.my.tt HW5.out.mg.tt HRB5.out.tt)
                  have HA40 := Lib.hid ha40
                  clear hnb ha40
                  go_wp2_with fail
                  refine HBG.out.mono ?_
                  rintro e w6 ⟨⟨v0, zs, hs, A', c', B', d', rfl, hbr, ry, rg⟩, b6⟩
                  have X6 := X13.next b6
                  have x6 := X6.cell
                  have x6f := X6.free
                  have HX13 : Hid (wr.heap.size + 1 < w5.heap.size) := X13.lt
                  have B7 := Lib.hid (below_two (Ext.trans B5.out b6) (show wr.heap.size ≤ wr.heap.size + 1 by omega) (.slice A' zs.length c') (.slice B' hs.length d'))
                  have X7 := box_self2 X6 (.slice A' zs.length c') (.slice B' hs.length d')
                  have Q7 := box_two (Q5.next b6) (show wr.heap.size ≠ wr.heap.size + 1 by omega) (.slice A' zs.length c') (.slice B' hs.length d')
                  have HRY7 := Lib.hid (rdin_two ry (k := wr.heap.size + 1) (fun b hb e => by have := hb.1; have := HX13.out; omega) (.slice A' zs.length c') (.slice B' hs.length d'))
                  have HRG7 := Lib.hid (rdin_two rg (k := wr.heap.size + 1) (fun b hb e => by have := hb.1; have := HX13.out; omega) (.slice A' zs.length c') (.slice B' hs.length d'))
                  have HS67 := Lib.hid (Nat.le_of_eq (two_size w6 (wr.heap.size + 1) (.slice A' zs.length c') (.slice B' hs.length d')).symm)
                  have HBR := Lib.hid hbr
                  clear c6 p6 HBG hwn ry rg b6 X6 hbr
                  go_upto_region 27 with fail
                  clear x6 x6f
                  generalize (w6.setCell ⟨wr.heap.size + 1, 0, none⟩ (.slice A' zs.length c')).setCell ⟨wr.heap.size + 1, 1, none⟩ (.slice B' hs.length d') = w7 at *
                  have HW7 := Lib.hid (HW.out.next B7.out)
                  rcases Bool.eq_false_or_eq_true (v0 == 0) with e0 | e0
                  · have hv0 : v0 = 0 := by simpa using e0
                    have e1 : (v0 != 0) = false := by simp [hv0]
                    have HIz := Lib.hid (HI.out.begin HNB.out (show BegRel X ys gs nb ki a y bs 0 zs hs by have h1 := HBR.out; rw [hv0] at h1; exact h1))
                    have y7 := Q7.cell
                    have bA := Ext.alloc (Below.refl w7.heap.size w7) (.cells #[.int .u8 (ki.toNat : Int), .int .i64 a, .int .i64 y, .slice D5 bs.length dc] 58)
                    have rd := rd_row w7 #[.int .u8 (ki.toNat : Int), .int .i64 a, .int .i64 y, .slice D5 bs.length dc] 58
                    have HW8 := Lib.hid (HW7.out.next bA)
                    have own8 := HW8.out.own
                    have hb8 := HW8.out.ord.2.2.2.2
                    have X8 := Lib.hid (X7.next bA)
                    have HRY8 := Lib.hid (((HRY7.out.mono fun b hb => (HW.out.fresh B5.out.size hb).next (w' := w7) HS67.out).below bA).mono fun b hb => hb.next bA.size)
                    have HRG8 := Lib.hid (((HRG7.out.mono fun b hb => (HW.out.fresh B5.out.size hb).next (w' := w7) HS67.out).below bA).mono fun b hb => hb.next bA.size)
                    have HBY : Hid (aks.length + 1 ≤ maxLen ∧ (aks.length + 1) * 48 ≤ 140737488355328) := by
                      have := HA40.out
                      show _ ∧ _
                      unfold maxLen
                      omega
                    clear bA hv0
                    go_upto_region 34 with (at_builtin; refine wpList_append_rd _ rfl (.tmp 109) (.tmp 112) 79 rfl wo.heap.size 58 ia _ 4 48 Try.underlying79 hia ha0 ha1 ha2 rfl (by decide) _ aks.length vals rfl own8 (some ⟨w7.heap.size, 0, none⟩) 1 _ [.int .u8 (ki.toNat : Int), .int .i64 a, .int .i64 y, .slice D5 bs.length dc] rfl (by simp) rd (by intro u hu; simp at hu; rcases hu with rfl | rfl | rfl | rfl <;> rfl) HBY.out.1 HBY.out.2 hb8 ?_; intro v9 w9 M9 g9 k9; have HM9 := Lib.hid M9; have HG9 := Lib.hid g9; have HK9 := Lib.hid k9; clear M9 g9 k9 own8 rd hb8)
                    have HWz := Lib.hid (HW8.out.ask HG9.out HK9.out rfl HM9.out HRB.out)
                    have XZ := X8.out.grown HG9.out (fun e => by have := (HW.out.row e).2; omega)
                    have HRYz := Lib.hid (rdin_asked HRY8.out HG9.out HK9.out)
                    have HRGz := Lib.hid (rdin_asked HRG8.out HG9.out HK9.out)
                    clear X8 HG9 HK9 HM9 HRY8 HRG8 HW8
                    have c9 := HWz.out.cfb.cell
                    have x9 := XZ.cell
                    have HCK := Lib.hid (HCHK.out _ zs hs _ _ A' c' B' d' _ HIz.out HRYz.out HRGz.out)
                    go_wp2_with fail
                    refine HCK.out.mono ?_
                    rintro e wy ⟨rfl, b9⟩
                    have HWy := Lib.hid (HWz.out.next b9)
                    have HWx := Lib.hid (HWy.out.plain (set2_row HWy.out.pb (.slice A' zs.length c') (.slice B' hs.length d')) ((HRYz.out.below b9).mono fun b hb => hb.next b9.size) ((HRGz.out.below b9).mono fun b hb => hb.next b9.size))
                    have xy := (XZ.next b9).cell
                    have py := HWy.out.pb.cell
                    have pf := HWy.out.pb.free
                    clear c9 x9 HCK b9 XZ
                    go_wp2
                    go_roundw
                    case rel => exact ⟨k + 1, zs, hs, A', c', B', d', vs, _, aks ++ [(ki, a, y, bs)], HLT.out, (by first | exact round_same HWJ | go_num), (by rw [List.length_append]; exact Nat.succ_le_succ HAL.out), HVN.out, HIz.out, HWx.out⟩
                    case measure => first | exact round_less HWJ HLT.out | (have h := HLT.out; simp [intOf]; omega)
                  · have e1 : (v0 != 0) = true := by simpa using e0
                    go_wp2
                    go_roundw
                    case rel => exact ⟨k + 1, ys, gs, A, ca, B, cb, vs, vals, aks, HLT.out, (by first | exact round_same HWJ | go_num), Nat.le_succ_of_le HAL.out, HVN.out, HI.out, HW7.out⟩
                    case measure => first | exact round_less HWJ HLT.out | (have h := HLT.out; simp [intOf]; omega)
                · have hm3 : Int.tmod (kd.toNat : Int) 3 = 1 := by rw [show (3 : Int) = ((3 : Nat) : Int) from rfl, tmod_nat (by decide), hk3]; rfl
                  have HEN := Lib.hid (HEND.out _ ys gs A ca B cb nu w5 HW5.out.my.tt HW5.out.mg.tt)
                  go_wp2_with fail
                  refine HEN.out.mono ?_
                  rintro e w6 ⟨⟨v0, zs, hs, rn, dat, many, A', c', B', d', DD, dq, rfl, her, ry, rg, rd⟩, b6⟩
                  have bR := Ext.alloc (Ext.alloc (Below.refl w6.heap.size w6) (.cells #[.slice A' zs.length c', .slice B' hs.length d'] 28)) (.cells #[.int .i64 rn, .int .i64 0, .slice DD dat.length dq, .int .i64 many] 53)
                  have Z15 := BoxOf.alloc (BoxOf.new w6 #[.slice A' zs.length c', .slice B' hs.length d'] 28) (.cells #[.int .i64 rn, .int .i64 0, .slice DD dat.length dq, .int .i64 many] 53)
                  have R16 := BoxOf.new' (w6.alloc (.cells #[.slice A' zs.length c', .slice B' hs.length d'] 28)) (w6.heap.size + 1) #[.int .i64 rn, .int .i64 0, .slice DD dat.length dq, .int .i64 many] 53 (by simp)
                  have X6 := (X13.next b6).next bR
                  have Q6 := (Q5.next b6).next bR
                  have T6 := Lib.hid (Ext.trans (Ext.trans B5.out b6) bR)
                  have HX13 : Hid (wr.heap.size + 1 < w5.heap.size) := X13.lt
                  have HS56 : Hid (w5.heap.size ≤ w6.heap.size) := b6.size
                  have HS6 := Lib.hid bR.size
                  have HRY6 := Lib.hid (ry.below bR)
                  have HRG6 := Lib.hid (rg.below bR)
                  have HRD6 := Lib.hid (rd.below bR)
                  have HER := Lib.hid her
                  clear c6 p6 y5 HEN ry rg rd b6 bR X13 Q5 her
                  go_upto_region 31 with fail
                  generalize (w6.alloc (.cells #[.slice A' zs.length c', .slice B' hs.length d'] 28)).alloc (.cells #[.int .i64 rn, .int .i64 0, .slice DD dat.length dq, .int .i64 many] 53) = w7 at *
                  have z7 := Z15.cell
                  have x7 := X6.cell
                  have x7f := X6.free
                  have B8 := Lib.hid (below_two T6.out (show wr.heap.size ≤ wr.heap.size + 1 by omega) (.slice A' zs.length c') (.slice B' hs.length d'))
                  have X8 := box_self2 X6 (.slice A' zs.length c') (.slice B' hs.length d')
                  have Q8 := box_two Q6 (show wr.heap.size ≠ wr.heap.size + 1 by omega) (.slice A' zs.length c') (.slice B' hs.length d')
                  have R8 := box_two R16 (show w6.heap.size + 1 ≠ wr.heap.size + 1 by have := HX13.out; have := HS56.out; omega) (.slice A' zs.length c') (.slice B' hs.length d')
                  have HRY8 := Lib.hid (rdin_two HRY6.out (k := wr.heap.size + 1) (fun b hb e => by have := hb.1; have := HX13.out; omega) (.slice A' zs.length c') (.slice B' hs.length d'))
                  have HRG8 := Lib.hid (rdin_two HRG6.out (k := wr.heap.size + 1) (fun b hb e => by have := hb.1; have := HX13.out; omega) (.slice A' zs.length c') (.slice B' hs.length d'))
                  have HRD8 := Lib.hid (rdin_two HRD6.out (k := wr.heap.size + 1) (fun b hb e => by have := hb.1; have := HX13.out; omega) (.slice A' zs.length c') (.slice B' hs.length d'))
                  have HS78 := Lib.hid (Nat.le_of_eq (two_size w7 (wr.heap.size + 1) (.slice A' zs.length c') (.slice B' hs.length d')).symm)
                  clear X6 Q6 R16 Z15 HRY6 HRG6 HRD6 T6
                  go_upto_region 32 with fail
                  clear z7 x7 x7f
                  generalize (w7.setCell ⟨wr.heap.size + 1, 0, none⟩ (.slice A' zs.length c')).setCell ⟨wr.heap.size + 1, 1, none⟩ (.slice B' hs.length d') = w8 at *
                  have HW8 := Lib.hid (HW.out.next B8.out)
                  have HSZ : Hid (w6.heap.size ≤ w8.heap.size) := Nat.le_trans HS6.out HS78.out
                  have HRY := Lib.hid (HRY8.out.mono fun b hb => (HW.out.fresh B5.out.size hb).next (w' := w8) HSZ.out)
                  have HRG := Lib.hid (HRG8.out.mono fun b hb => (HW.out.fresh B5.out.size hb).next (w' := w8) HSZ.out)
                  rcases Bool.eq_false_or_eq_true (v0 == 0) with e0 | e0
                  · have hv0 : v0 = 0 := by simpa using e0
                    have e1 : (v0 != 0) = false := by simp [hv0]
                    have her : EndRel X ys gs nu 0 zs hs rn dat many := by have h1 := HER.out; rw [hv0] at h1; exact h1
                    obtain ⟨n1, k1, a1, y1, bs1, hnu, hask, hrn, hmany, ht, hdat, hi⟩ := HI.out.end her
                    have hrn' := hrn.symm
                    subst hrn'
                    subst hmany
                    obtain ⟨q1, cap1, D1, dc1, hv1, hn1, hc1, hb1, hql⟩ := HW8.out.asked hask
                    injection hv1 with hv1 _ hv2
                    subst hv1 hv2
                    have m0 : w8.cell? ⟨q1, n1 * 4, none⟩ = some (.int .u8 (k1.toNat : Int)) := hc1 0 (by decide)
                    have m1 : w8.cell? ⟨q1, n1 * 4 + 1, none⟩ = some (.int .i64 (a1 : Int)) := hc1 1 (by decide)
                    have m2 : w8.cell? ⟨q1, n1 * 4 + 2, none⟩ = some (.int .i64 (y1 : Int)) := hc1 2 (by decide)
                    have m3 : w8.cell? ⟨q1, n1 * 4 + 3, none⟩ = some (.slice D1 bs1.length dc1) := hc1 3 (by decide)
                    have hqg : q1 ≠ g := by have h1 := HW8.out.row (k := q1) rfl; have h2 := HW8.out.ord; omega
                    have hxg : wr.heap.size ≠ g ∧ wr.heap.size + 1 ≠ g ∧ w6.heap.size + 1 ≠ g ∧ g < w5.heap.size := by have h2 := HW.out.lts.2.2; have := HX13.out; have := HS56.out; omega
                    have hwn : IntKind.i64.wrap (nu - 1) = (n1 : Int) := by have := HAL.out; have := HLT.out; have := HDN.out; have := H40.out; rw [i64_fit (by omega)]; omega
                    have hdt : (dat == if kWrites ((k1.toNat : Nat) : Int) = true then [] else tellS vs a1 y1) = true := by rw [← hdat]; exact beq_self_eq_true _
                    have h0 := told_any (Free w8 P g (.slice (some ⟨q1, 0, none⟩) aks.length vc)) g cap vs k1 a1 y1 D1 dc1 bs1 DD dq dat nu 0 w8.drew ht.1 ht.2.1 ht.2.2.1 (HW8.out.nw.frame rfl (fun _ _ => rfl) (fun _ h => h) HW8.out.nw.not) (fun b hb => hb.1) HI.out.v128 ht.2.2.2.1 ht.2.2.2.2.1 ht.2.2.2.2.2 (hb1.below (Ext.drew (Below.refl _ _))) (HRD8.out.bytes_bs.below (Ext.drew (Below.refl _ _))) (dat_apart HRD8.out hxg.2.2.2)
                    rw [hdt, HVN.out] at h0
                    have HTD := Lib.hid h0
                    have HIz := Lib.hid hi
                    have HR8 := Lib.hid R8
                    have HQ8 := Lib.hid Q8
                    have HX8 := Lib.hid X8
                    have HXG := Lib.hid hxg
                    have HM : Hid (w8.cell? ⟨q1, n1 * 4, none⟩ = some (.int .u8 (k1.toNat : Int)) ∧ w8.cell? ⟨q1, n1 * 4 + 1, none⟩ = some (.int .i64 (a1 : Int)) ∧ w8.cell? ⟨q1, n1 * 4 + 2, none⟩ = some (.int .i64 (y1 : Int)) ∧ w8.cell? ⟨q1, n1 * 4 + 3, none⟩ = some (.slice D1 bs1.length dc1)) := ⟨m0, m1, m2, m3⟩
                    have HQG := Lib.hid hqg
                    have hnn : (nu != nu) = false := by simp
                    clear m0 m1 m2 m3 h0 hdt hi R8 Q8 X8 hxg hnu hask ht hdat hc1 hb1 hql her hqg hv0
                    have HS : Hid (∀ w', w8.grownBy w' (some g) → (w8.grownBy w' (some g) ∧ (∀ p, w'.cell? ⟨w6.heap.size + 1, p, none⟩ = (#[.int .i64 nu, .int .i64 0, .slice DD dat.length dq, .int .i64 (y1 : Int)] : Array Value).toList[p]?) ∧ (∀ p, w'.cell? ⟨wr.heap.size, p, none⟩ = (#[.int .u8 (kd.toNat : Int), .int .u8 (ki.toNat : Int), .int .i64 a, .int .i64 y, .slice D5 bs.length dc, .int .i64 nu, .slice PS ps.length pc] : Array Value).toList[p]?) ∧ w'.cell? ⟨q1, n1 * 4, none⟩ = some (.int .u8 (k1.toNat : Int)) ∧ w'.cell? ⟨q1, n1 * 4 + 1, none⟩ = some (.int .i64 (a1 : Int)) ∧ w'.cell? ⟨q1, n1 * 4 + 2, none⟩ = some (.int .i64 (y1 : Int)) ∧ w'.cell? ⟨q1, n1 * 4 + 3, none⟩ = some (.slice D1 bs1.length dc1))) := fun w' b => ⟨b, (HR8.out.grown b (fun e => HXG.out.2.2.1 (Option.some.inj e).symm)).cell, (HQ8.out.grown b (fun e => HXG.out.1 (Option.some.inj e).symm)).cell, grown_cell b HQG.out HM.out.1, grown_cell b HQG.out HM.out.2.1, grown_cell b HQG.out HM.out.2.2.1, grown_cell b HQG.out HM.out.2.2.2⟩
                    refine wp_region_held_drew (S := fun w' => w8.grownBy w' (some g) ∧ (∀ p, w'.cell? ⟨w6.heap.size + 1, p, none⟩ = (#[.int .i64 nu, .int .i64 0, .slice DD dat.length dq, .int .i64 (y1 : Int)] : Array Value).toList[p]?) ∧ (∀ p, w'.cell? ⟨wr.heap.size, p, none⟩ = (#[.int .u8 (kd.toNat : Int), .int .u8 (ki.toNat : Int), .int .i64 a, .int .i64 y, .slice D5 bs.length dc, .int .i64 nu, .slice PS ps.length pc] : Array Value).toList[p]?) ∧ w'.cell? ⟨q1, n1 * 4, none⟩ = some (.int .u8 (k1.toNat : Int)) ∧ w'.cell? ⟨q1, n1 * 4 + 1, none⟩ = some (.int .i64 (a1 : Int)) ∧ w'.cell? ⟨q1, n1 * 4 + 2, none⟩ = some (.int .i64 (y1 : Int)) ∧ w'.cell? ⟨q1, n1 * 4 + 3, none⟩ = some (.slice D1 bs1.length dc1)) (by kernel_rfl) (HS.out _ (grown_drew (grown_refl _ _))) (fun hS => ?_)
                    refine wpAnyH_take (i := 0) (oi := _) (v := ?_) rfl (by kernel_rfl) (by kernel_rfl) (by kernel_rfl) (fun _ _ _ h => h) (Or.inl ⟨by rfl, ?_⟩) hS ?_
                    rotate_left
                    · (intro w hSw; (try dsimp only at hSw); go_simp; (try with_reducible rfl))
                    rotate_left
                    simp only [Act.put, List.getElem_toArray, List.getElem_cons_zero, List.getElem_cons_succ, List.setIfInBounds_toArray, List.set_cons_zero, List.set_cons_succ]
                    refine wpAnyH_take (i := 1) (oi := _) (v := ?_) rfl (by kernel_rfl) (by kernel_rfl) (by kernel_rfl) (fun _ _ _ h => h) (Or.inl ⟨by rfl, ?_⟩) hS ?_
                    rotate_left
                    · (intro w hSw; (try dsimp only at hSw); go_simp; (try with_reducible rfl))
                    rotate_left
                    simp only [Act.put, List.getElem_toArray, List.getElem_cons_zero, List.getElem_cons_succ, List.setIfInBounds_toArray, List.set_cons_zero, List.set_cons_succ]
                    refine wpAnyH_take (i := 2) (oi := _) (v := ?_) rfl (by kernel_rfl) (by kernel_rfl) (by kernel_rfl) (fun _ _ _ h => h) (Or.inl ⟨by rfl, ?_⟩) hS ?_
                    rotate_left
                    · (intro w hSw; (try dsimp only at hSw); go_simp; (try with_reducible rfl))
                    rotate_left
                    simp only [Act.put, List.getElem_toArray, List.getElem_cons_zero, List.getElem_cons_succ, List.setIfInBounds_toArray, List.set_cons_zero, List.set_cons_succ]
                    refine wpAnyH_take (i := 3) (oi := _) (v := ?_) rfl (by kernel_rfl) (by kernel_rfl) (by kernel_rfl) (fun _ _ _ h => h) (Or.inl ⟨by rfl, ?_⟩) hS ?_
                    rotate_left
                    · (intro w hSw; (try dsimp only at hSw); go_simp; (try with_reducible rfl))
                    rotate_left
                    simp only [Act.put, List.getElem_toArray, List.getElem_cons_zero, List.getElem_cons_succ, List.setIfInBounds_toArray, List.set_cons_zero, List.set_cons_succ]
                    refine wpAnyH_take (i := 4) (oi := _) (v := ?_) rfl (by kernel_rfl) (by kernel_rfl) (by kernel_rfl) (fun _ _ _ h => h) (Or.inl ⟨by rfl, ?_⟩) hS ?_
                    rotate_left
                    · (intro w hSw; (try dsimp only at hSw); go_simp; (try with_reducible rfl))
                    rotate_left
                    simp only [Act.put, List.getElem_toArray, List.getElem_cons_zero, List.getElem_cons_succ, List.setIfInBounds_toArray, List.set_cons_zero, List.set_cons_succ]
                    refine wpAnyH_take (i := 5) (oi := _) (v := ?_) rfl (by kernel_rfl) (by kernel_rfl) (by kernel_rfl) (fun _ _ _ h => h) (Or.inl ⟨by rfl, ?_⟩) hS ?_
                    rotate_left
                    · (intro w hSw; (try dsimp only at hSw); go_simp; (try with_reducible rfl))
                    rotate_left
                    simp only [Act.put, List.getElem_toArray, List.getElem_cons_zero, List.getElem_cons_succ, List.setIfInBounds_toArray, List.set_cons_zero, List.set_cons_succ]
                    refine wpAnyH_take (i := 6) (oi := _) (v := ?_) rfl (by kernel_rfl) (by kernel_rfl) (by kernel_rfl) (fun _ _ _ h => h) (Or.inl ⟨by rfl, ?_⟩) hS ?_
                    rotate_left
                    · (intro w hSw; (try dsimp only at hSw); go_simp; (try with_reducible rfl))
                    rotate_left
                    simp only [Act.put, List.getElem_toArray, List.getElem_cons_zero, List.getElem_cons_succ, List.setIfInBounds_toArray, List.set_cons_zero, List.set_cons_succ]
                    refine wpAnyH_take (i := 7) (oi := _) (v := ?_) rfl (by kernel_rfl) (by kernel_rfl) (by kernel_rfl) (fun _ _ _ h => h) (Or.inl ⟨by rfl, ?_⟩) hS ?_
                    rotate_left
                    · (intro w hSw; (try dsimp only at hSw); go_simp; (try with_reducible rfl))
                    rotate_left
                    simp only [Act.put, List.getElem_toArray, List.getElem_cons_zero, List.getElem_cons_succ, List.setIfInBounds_toArray, List.set_cons_zero, List.set_cons_succ]
                    refine wpAnyH_take (i := 8) (oi := _) (v := ?_) rfl (by kernel_rfl) (by kernel_rfl) (by kernel_rfl) (fun _ _ _ h => h) (Or.inl ⟨by rfl, ?_⟩) hS ?_
                    rotate_left
                    · (intro w hSw; (try dsimp only at hSw); go_simp; (try with_reducible rfl))
                    rotate_left
                    simp only [Act.put, List.getElem_toArray, List.getElem_cons_zero, List.getElem_cons_succ, List.setIfInBounds_toArray, List.set_cons_zero, List.set_cons_succ]
                    refine wpAnyH_take (i := 9) (oi := _) (v := ?_) rfl (by kernel_rfl) (by kernel_rfl) (by kernel_rfl) (fun _ _ _ h => h) (Or.inl ⟨by rfl, ?_⟩) hS ?_
                    rotate_left
                    · (intro w hSw; (try dsimp only at hSw); go_simp; (try with_reducible rfl))
                    rotate_left
                    simp only [Act.put, List.getElem_toArray, List.getElem_cons_zero, List.getElem_cons_succ, List.setIfInBounds_toArray, List.set_cons_zero, List.set_cons_succ]
                    refine wpAnyH_take (i := 10) (oi := _) (v := ?_) rfl (by kernel_rfl) (by kernel_rfl) (by kernel_rfl) (fun _ _ _ h => h) (Or.inl ⟨by rfl, ?_⟩) hS ?_
                    rotate_left
                    · (intro w hSw; (try dsimp only at hSw); go_simp; (try with_reducible rfl))
                    rotate_left
                    simp only [Act.put, List.getElem_toArray, List.getElem_cons_zero, List.getElem_cons_succ, List.setIfInBounds_toArray, List.set_cons_zero, List.set_cons_succ]
                    refine wpAnyH_take (i := 11) (oi := _) (v := ?_) rfl (by kernel_rfl) (by kernel_rfl) (by kernel_rfl) (fun _ _ _ h => h) (Or.inl ⟨by rfl, ?_⟩) hS ?_
                    rotate_left
                    · (intro w hSw; (try dsimp only at hSw); go_simp; (try with_reducible rfl))
                    rotate_left
                    simp only [Act.put, List.getElem_toArray, List.getElem_cons_zero, List.getElem_cons_succ, List.setIfInBounds_toArray, List.set_cons_zero, List.set_cons_succ]
                    refine wpAnyH_take (i := 12) (oi := _) (v := ?_) rfl (by kernel_rfl) (by kernel_rfl) (by kernel_rfl) (fun _ _ _ h => h) (Or.inl ⟨by rfl, ?_⟩) hS ?_
                    rotate_left
                    · (intro w hSw; (try dsimp only at hSw); go_simp; (try with_reducible rfl))
                    rotate_left
                    simp only [Act.put, List.getElem_toArray, List.getElem_cons_zero, List.getElem_cons_succ, List.setIfInBounds_toArray, List.set_cons_zero, List.set_cons_succ]
                    refine wpAnyH_take (i := 13) (oi := _) (v := ?_) rfl (by kernel_rfl) (by kernel_rfl) (by kernel_rfl) (fun _ _ _ h => h) (Or.inl ⟨by rfl, ?_⟩) hS ?_
                    rotate_left
                    · (intro w hSw; (try dsimp only at hSw); go_simp; (try with_reducible rfl))
                    rotate_left
                    simp only [Act.put, List.getElem_toArray, List.getElem_cons_zero, List.getElem_cons_succ, List.setIfInBounds_toArray, List.set_cons_zero, List.set_cons_succ]
                    refine wpAnyH_take (i := 14) (oi := _) (v := ?_) rfl (by kernel_rfl) (by kernel_rfl) (by kernel_rfl) (fun _ _ _ h => h) (Or.inl ⟨by rfl, ?_⟩) hS ?_
                    rotate_left
                    · (intro w hSw; (try dsimp only at hSw); go_simp; (try with_reducible rfl))
                    rotate_left
                    simp only [Act.put, List.getElem_toArray, List.getElem_cons_zero, List.getElem_cons_succ, List.setIfInBounds_toArray, List.set_cons_zero, List.set_cons_succ]
                    refine wpAnyH_take (i := 15) (oi := _) (v := ?_) rfl (by kernel_rfl) (by kernel_rfl) (by kernel_rfl) (fun _ _ _ h => h) (Or.inl ⟨by rfl, ?_⟩) hS ?_
                    rotate_left
                    · (intro w hSw; (try dsimp only at hSw); go_simp; (try with_reducible rfl))
                    rotate_left
                    simp only [Act.put, List.getElem_toArray, List.getElem_cons_zero, List.getElem_cons_succ, List.setIfInBounds_toArray, List.set_cons_zero, List.set_cons_succ]
                    refine wpAnyH_take (i := 16) (oi := _) (v := ?_) rfl (by kernel_rfl) (by kernel_rfl) (by kernel_rfl) (fun _ _ _ h => h) (Or.inl ⟨by rfl, ?_⟩) hS ?_
                    rotate_left
                    · (intro w hSw; (try dsimp only at hSw); go_simp; (try with_reducible rfl))
                    rotate_left
                    simp only [Act.put, List.getElem_toArray, List.getElem_cons_zero, List.getElem_cons_succ, List.setIfInBounds_toArray, List.set_cons_zero, List.set_cons_succ]
                    refine wpAnyH_take (i := 17) (oi := _) (v := ?_) rfl (by kernel_rfl) (by kernel_rfl) (by kernel_rfl) (fun _ _ _ h => h) (Or.inl ⟨by rfl, ?_⟩) hS ?_
                    rotate_left
                    · (intro w hSw; (try dsimp only at hSw); go_simp; (try with_reducible rfl))
                    rotate_left
                    simp only [Act.put, List.getElem_toArray, List.getElem_cons_zero, List.getElem_cons_succ, List.setIfInBounds_toArray, List.set_cons_zero, List.set_cons_succ]
                    refine wpAnyH_take (i := 18) (oi := _) (v := ?_) rfl (by kernel_rfl) (by kernel_rfl) (by kernel_rfl) (fun _ _ _ h => h) (Or.inl ⟨by rfl, ?_⟩) hS ?_
                    rotate_left
                    · (intro w hSw; (try dsimp only at hSw); go_simp; (try with_reducible rfl))
                    rotate_left
                    simp only [Act.put, List.getElem_toArray, List.getElem_cons_zero, List.getElem_cons_succ, List.setIfInBounds_toArray, List.set_cons_zero, List.set_cons_succ]
                    refine wpAnyH_take (i := 21) (oi := _) (v := ?_) rfl (by kernel_rfl) (by kernel_rfl) (by kernel_rfl) (fun _ _ _ h => h) (Or.inl ⟨by rfl, ?_⟩) hS ?_
                    rotate_left
                    · (intro w hSw; (try dsimp only at hSw); go_simp; (try with_reducible rfl))
                    rotate_left
                    simp only [Act.put, List.getElem_toArray, List.getElem_cons_zero, List.getElem_cons_succ, List.setIfInBounds_toArray, List.set_cons_zero, List.set_cons_succ]
                    refine wpAnyH_ready (rs := [19]) (by kernel_rfl) (by simp) ?_
                    refine AllReadyH.cons rfl (fun K hK => ?_) AllReadyH.nil
                    rw [if_pos (by rfl)]
                    go_simp
                    refine hK.out _ _ hS (fun hS' => ?_)
                    clear hK K hS
                    have hS := hS'
                    clear hS'
                    try simp only [Act.put, List.getElem_toArray, List.getElem_cons_zero, List.getElem_cons_succ, List.setIfInBounds_toArray, List.set_cons_zero, List.set_cons_succ]
                    refine wpAnyH_take (i := 20) (oi := _) (v := ?_) rfl (by kernel_rfl) (by kernel_rfl) (by kernel_rfl) (fun _ _ _ h => h) (Or.inl ⟨by rfl, ?_⟩) hS ?_
                    rotate_left
                    · (intro w hSw; (try dsimp only at hSw); go_simp; (try with_reducible rfl))
                    rotate_left
                    simp only [Act.put, List.getElem_toArray, List.getElem_cons_zero, List.getElem_cons_succ, List.setIfInBounds_toArray, List.set_cons_zero, List.set_cons_succ]
                    refine wpAnyH_ready (rs := [22]) (by kernel_rfl) (by simp) ?_
                    refine AllReadyH.cons rfl (fun K hK => ?_) AllReadyH.nil
                    rw [if_pos (by rfl)]
                    go_simp
                    refine HTD.out.mono ?_
                    rintro e w9 ⟨rfl, g9, By9, hB9, hn9⟩
                    have HG9 : Hid (w8.grownBy w9 (some g)) := grown_two (grown_drew (grown_refl _ _)) g9
                    have HW9 := Lib.hid (HW8.out.vals' HG9.out hB9 hn9)
                    refine hK.out _ _ (HS.out _ HG9.out) (fun hS' => ?_)
                    clear hK K hS g9 hB9 hn9
                    have hS := hS'
                    clear hS'
                    try simp only [Act.put, List.getElem_toArray, List.getElem_cons_zero, List.getElem_cons_succ, List.setIfInBounds_toArray, List.set_cons_zero, List.set_cons_succ]
                    refine wpAnyH_take (i := 23) (oi := _) (v := ?_) rfl (by kernel_rfl) (by kernel_rfl) (by kernel_rfl) (fun _ _ _ h => h) (Or.inl ⟨by rfl, ?_⟩) hS ?_
                    rotate_left
                    · (intro w hSw; (try dsimp only at hSw); go_simp; (try with_reducible rfl))
                    rotate_left
                    simp only [Act.put, List.getElem_toArray, List.getElem_cons_zero, List.getElem_cons_succ, List.setIfInBounds_toArray, List.set_cons_zero, List.set_cons_succ]
                    refine wpAnyH_take (i := 24) (oi := _) (v := ?_) rfl (by kernel_rfl) (by kernel_rfl) (by kernel_rfl) (fun _ _ _ h => h) (Or.inl ⟨by rfl, ?_⟩) hS ?_
                    rotate_left
                    · (intro w hSw; (try dsimp only at hSw); go_simp; (try with_reducible rfl))
                    rotate_left
                    simp only [Act.put, List.getElem_toArray, List.getElem_cons_zero, List.getElem_cons_succ, List.setIfInBounds_toArray, List.set_cons_zero, List.set_cons_succ]
                    refine wpAnyH_take (i := 25) (oi := _) (v := ?_) rfl (by kernel_rfl) (by kernel_rfl) (by kernel_rfl) (fun _ _ _ h => h) (Or.inl ⟨by rfl, ?_⟩) hS ?_
                    rotate_left
                    · (intro w hSw; (try dsimp only at hSw); go_simp; (try with_reducible rfl))
                    rotate_left
                    simp only [Act.put, List.getElem_toArray, List.getElem_cons_zero, List.getElem_cons_succ, List.setIfInBounds_toArray, List.set_cons_zero, List.set_cons_succ]
                    refine wpAnyH_done (by kernel_rfl) ?_ _
                    clear hS HS
                    have HWz := HW9
                    have XZ := HX8.out.grown HG9.out (fun e => HXG.out.2.1 (Option.some.inj e).symm)
                    have HRYz := Lib.hid (rdin_told HRY.out HG9.out)
                    have HRGz := Lib.hid (rdin_told HRG.out HG9.out)
                    have c9 := HWz.out.cfb.cell
                    have x9 := XZ.cell
                    have HCK := Lib.hid (HCHK.out _ zs hs _ _ A' c' B' d' _ HIz.out HRYz.out HRGz.out)
                    go_wp2_with fail
                    refine HCK.out.mono ?_
                    rintro e wy ⟨rfl, b9⟩
                    have HWy := Lib.hid (HWz.out.next b9)
                    have HWx := Lib.hid (HWy.out.plain (set2_row HWy.out.pb (.slice A' zs.length c') (.slice B' hs.length d')) ((HRYz.out.below b9).mono fun b hb => hb.next b9.size) ((HRGz.out.below b9).mono fun b hb => hb.next b9.size))
                    have xy := (XZ.next b9).cell
                    have py := HWy.out.pb.cell
                    have pf := HWy.out.pb.free
                    clear c9 x9 HCK b9 XZ
                    go_wp2
                    go_roundw
                    case rel => exact ⟨k + 1, zs, hs, A', c', B', d', _, vals, aks, HLT.out, (by first | exact round_same HWJ | go_num), Nat.le_succ_of_le HAL.out, (by rw [nowOf_len]; exact HVN.out), HIz.out, HWx.out⟩
                    case measure => first | exact round_less HWJ HLT.out | (have h := HLT.out; simp [intOf]; omega)
                  · have e1 : (v0 != 0) = true := by simpa using e0
                    have HS : Hid (∀ w', Below w8.heap.size w8 w' → (Below w8.heap.size w8 w')) := fun w' b => b
                    refine wp_region_held_drew (S := fun w' => Below w8.heap.size w8 w') (by kernel_rfl) (HS.out _ (Ext.drew (Below.refl _ _))) (fun hS => ?_)
                    refine wpAnyH_take (i := 0) (oi := _) (v := ?_) rfl (by kernel_rfl) (by kernel_rfl) (by kernel_rfl) (fun _ _ _ h => h) (Or.inl ⟨by rfl, ?_⟩) hS ?_
                    rotate_left
                    · (intro w hSw; (try dsimp only at hSw); go_simp; (try with_reducible rfl))
                    rotate_left
                    simp only [Act.put, List.getElem_toArray, List.getElem_cons_zero, List.getElem_cons_succ, List.setIfInBounds_toArray, List.set_cons_zero, List.set_cons_succ]
                    refine wpAnyH_take (i := 1) (oi := _) (v := ?_) rfl (by kernel_rfl) (by kernel_rfl) (by kernel_rfl) (fun _ _ _ h => h) (Or.inl ⟨by rfl, ?_⟩) hS ?_
                    rotate_left
                    · (intro w hSw; (try dsimp only at hSw); go_simp; (try with_reducible rfl))
                    rotate_left
                    simp only [Act.put, List.getElem_toArray, List.getElem_cons_zero, List.getElem_cons_succ, List.setIfInBounds_toArray, List.set_cons_zero, List.set_cons_succ]
                    refine wpAnyH_take (i := 2) (oi := _) (v := ?_) rfl (by kernel_rfl) (by kernel_rfl) (by kernel_rfl) (fun _ _ _ h => h) (Or.inl ⟨by rfl, ?_⟩) hS ?_
                    rotate_left
                    · (intro w hSw; (try dsimp only at hSw); go_simp; (try with_reducible rfl))
                    rotate_left
                    simp only [Act.put, List.getElem_toArray, List.getElem_cons_zero, List.getElem_cons_succ, List.setIfInBounds_toArray, List.set_cons_zero, List.set_cons_succ]
                    refine wpAnyH_take (i := 3) (oi := _) (v := ?_) rfl (by kernel_rfl) (by kernel_rfl) (by kernel_rfl) (fun _ _ _ h => h) (Or.inr ⟨by rfl, ?_⟩) hS ?_
                    rotate_left
                    · rfl
                    rotate_left
                    simp only [Act.put, List.getElem_toArray, List.getElem_cons_zero, List.getElem_cons_succ, List.setIfInBounds_toArray, List.set_cons_zero, List.set_cons_succ]
                    refine wpAnyH_take (i := 4) (oi := _) (v := ?_) rfl (by kernel_rfl) (by kernel_rfl) (by kernel_rfl) (fun _ _ _ h => h) (Or.inr ⟨by rfl, ?_⟩) hS ?_
                    rotate_left
                    · rfl
                    rotate_left
                    simp only [Act.put, List.getElem_toArray, List.getElem_cons_zero, List.getElem_cons_succ, List.setIfInBounds_toArray, List.set_cons_zero, List.set_cons_succ]
                    refine wpAnyH_take (i := 5) (oi := _) (v := ?_) rfl (by kernel_rfl) (by kernel_rfl) (by kernel_rfl) (fun _ _ _ h => h) (Or.inr ⟨by rfl, ?_⟩) hS ?_
                    rotate_left
                    · rfl
                    rotate_left
                    simp only [Act.put, List.getElem_toArray, List.getElem_cons_zero, List.getElem_cons_succ, List.setIfInBounds_toArray, List.set_cons_zero, List.set_cons_succ]
                    refine wpAnyH_take (i := 6) (oi := _) (v := ?_) rfl (by kernel_rfl) (by kernel_rfl) (by kernel_rfl) (fun _ _ _ h => h) (Or.inr ⟨by rfl, ?_⟩) hS ?_
                    rotate_left
                    · rfl
                    rotate_left
                    simp only [Act.put, List.getElem_toArray, List.getElem_cons_zero, List.getElem_cons_succ, List.setIfInBounds_toArray, List.set_cons_zero, List.set_cons_succ]
                    refine wpAnyH_take (i := 7) (oi := _) (v := ?_) rfl (by kernel_rfl) (by kernel_rfl) (by kernel_rfl) (fun _ _ _ h => h) (Or.inr ⟨by rfl, ?_⟩) hS ?_
                    rotate_left
                    · rfl
                    rotate_left
                    simp only [Act.put, List.getElem_toArray, List.getElem_cons_zero, List.getElem_cons_succ, List.setIfInBounds_toArray, List.set_cons_zero, List.set_cons_succ]
                    refine wpAnyH_take (i := 8) (oi := _) (v := ?_) rfl (by kernel_rfl) (by kernel_rfl) (by kernel_rfl) (fun _ _ _ h => h) (Or.inr ⟨by rfl, ?_⟩) hS ?_
                    rotate_left
                    · rfl
                    rotate_left
                    simp only [Act.put, List.getElem_toArray, List.getElem_cons_zero, List.getElem_cons_succ, List.setIfInBounds_toArray, List.set_cons_zero, List.set_cons_succ]
                    refine wpAnyH_take (i := 9) (oi := _) (v := ?_) rfl (by kernel_rfl) (by kernel_rfl) (by kernel_rfl) (fun _ _ _ h => h) (Or.inr ⟨by rfl, ?_⟩) hS ?_
                    rotate_left
                    · rfl
                    rotate_left
                    simp only [Act.put, List.getElem_toArray, List.getElem_cons_zero, List.getElem_cons_succ, List.setIfInBounds_toArray, List.set_cons_zero, List.set_cons_succ]
                    refine wpAnyH_take (i := 10) (oi := _) (v := ?_) rfl (by kernel_rfl) (by kernel_rfl) (by kernel_rfl) (fun _ _ _ h => h) (Or.inr ⟨by rfl, ?_⟩) hS ?_
                    rotate_left
                    · rfl
                    rotate_left
                    simp only [Act.put, List.getElem_toArray, List.getElem_cons_zero, List.getElem_cons_succ, List.setIfInBounds_toArray, List.set_cons_zero, List.set_cons_succ]
                    refine wpAnyH_take (i := 11) (oi := _) (v := ?_) rfl (by kernel_rfl) (by kernel_rfl) (by kernel_rfl) (fun _ _ _ h => h) (Or.inr ⟨by rfl, ?_⟩) hS ?_
                    rotate_left
                    · rfl
                    rotate_left
                    simp only [Act.put, List.getElem_toArray, List.getElem_cons_zero, List.getElem_cons_succ, List.setIfInBounds_toArray, List.set_cons_zero, List.set_cons_succ]
                    refine wpAnyH_take (i := 12) (oi := _) (v := ?_) rfl (by kernel_rfl) (by kernel_rfl) (by kernel_rfl) (fun _ _ _ h => h) (Or.inr ⟨by rfl, ?_⟩) hS ?_
                    rotate_left
                    · rfl
                    rotate_left
                    simp only [Act.put, List.getElem_toArray, List.getElem_cons_zero, List.getElem_cons_succ, List.setIfInBounds_toArray, List.set_cons_zero, List.set_cons_succ]
                    refine wpAnyH_take (i := 13) (oi := _) (v := ?_) rfl (by kernel_rfl) (by kernel_rfl) (by kernel_rfl) (fun _ _ _ h => h) (Or.inr ⟨by rfl, ?_⟩) hS ?_
                    rotate_left
                    · rfl
                    rotate_left
                    simp only [Act.put, List.getElem_toArray, List.getElem_cons_zero, List.getElem_cons_succ, List.setIfInBounds_toArray, List.set_cons_zero, List.set_cons_succ]
                    refine wpAnyH_take (i := 14) (oi := _) (v := ?_) rfl (by kernel_rfl) (by kernel_rfl) (by kernel_rfl) (fun _ _ _ h => h) (Or.inr ⟨by rfl, ?_⟩) hS ?_
                    rotate_left
                    · rfl
                    rotate_left
                    simp only [Act.put, List.getElem_toArray, List.getElem_cons_zero, List.getElem_cons_succ, List.setIfInBounds_toArray, List.set_cons_zero, List.set_cons_succ]
                    refine wpAnyH_take (i := 15) (oi := _) (v := ?_) rfl (by kernel_rfl) (by kernel_rfl) (by kernel_rfl) (fun _ _ _ h => h) (Or.inr ⟨by rfl, ?_⟩) hS ?_
                    rotate_left
                    · rfl
                    rotate_left
                    simp only [Act.put, List.getElem_toArray, List.getElem_cons_zero, List.getElem_cons_succ, List.setIfInBounds_toArray, List.set_cons_zero, List.set_cons_succ]
                    refine wpAnyH_take (i := 16) (oi := _) (v := ?_) rfl (by kernel_rfl) (by kernel_rfl) (by kernel_rfl) (fun _ _ _ h => h) (Or.inr ⟨by rfl, ?_⟩) hS ?_
                    rotate_left
                    · rfl
                    rotate_left
                    simp only [Act.put, List.getElem_toArray, List.getElem_cons_zero, List.getElem_cons_succ, List.setIfInBounds_toArray, List.set_cons_zero, List.set_cons_succ]
                    refine wpAnyH_take (i := 17) (oi := _) (v := ?_) rfl (by kernel_rfl) (by kernel_rfl) (by kernel_rfl) (fun _ _ _ h => h) (Or.inr ⟨by rfl, ?_⟩) hS ?_
                    rotate_left
                    · rfl
                    rotate_left
                    simp only [Act.put, List.getElem_toArray, List.getElem_cons_zero, List.getElem_cons_succ, List.setIfInBounds_toArray, List.set_cons_zero, List.set_cons_succ]
                    refine wpAnyH_take (i := 18) (oi := _) (v := ?_) rfl (by kernel_rfl) (by kernel_rfl) (by kernel_rfl) (fun _ _ _ h => h) (Or.inr ⟨by rfl, ?_⟩) hS ?_
                    rotate_left
                    · rfl
                    rotate_left
                    simp only [Act.put, List.getElem_toArray, List.getElem_cons_zero, List.getElem_cons_succ, List.setIfInBounds_toArray, List.set_cons_zero, List.set_cons_succ]
                    refine wpAnyH_take (i := 19) (oi := _) (v := ?_) rfl (by kernel_rfl) (by kernel_rfl) (by kernel_rfl) (fun _ _ _ h => h) (Or.inr ⟨by rfl, ?_⟩) hS ?_
                    rotate_left
                    · rfl
                    rotate_left
                    simp only [Act.put, List.getElem_toArray, List.getElem_cons_zero, List.getElem_cons_succ, List.setIfInBounds_toArray, List.set_cons_zero, List.set_cons_succ]
                    refine wpAnyH_take (i := 20) (oi := _) (v := ?_) rfl (by kernel_rfl) (by kernel_rfl) (by kernel_rfl) (fun _ _ _ h => h) (Or.inr ⟨by rfl, ?_⟩) hS ?_
                    rotate_left
                    · rfl
                    rotate_left
                    simp only [Act.put, List.getElem_toArray, List.getElem_cons_zero, List.getElem_cons_succ, List.setIfInBounds_toArray, List.set_cons_zero, List.set_cons_succ]
                    refine wpAnyH_take (i := 21) (oi := _) (v := ?_) rfl (by kernel_rfl) (by kernel_rfl) (by kernel_rfl) (fun _ _ _ h => h) (Or.inr ⟨by rfl, ?_⟩) hS ?_
                    rotate_left
                    · rfl
                    rotate_left
                    simp only [Act.put, List.getElem_toArray, List.getElem_cons_zero, List.getElem_cons_succ, List.setIfInBounds_toArray, List.set_cons_zero, List.set_cons_succ]
                    refine wpAnyH_take (i := 22) (oi := _) (v := ?_) rfl (by kernel_rfl) (by kernel_rfl) (by kernel_rfl) (fun _ _ _ h => h) (Or.inr ⟨by rfl, ?_⟩) hS ?_
                    rotate_left
                    · rfl
                    rotate_left
                    simp only [Act.put, List.getElem_toArray, List.getElem_cons_zero, List.getElem_cons_succ, List.setIfInBounds_toArray, List.set_cons_zero, List.set_cons_succ]
                    refine wpAnyH_take (i := 23) (oi := _) (v := ?_) rfl (by kernel_rfl) (by kernel_rfl) (by kernel_rfl) (fun _ _ _ h => h) (Or.inr ⟨by rfl, ?_⟩) hS ?_
                    rotate_left
                    · rfl
                    rotate_left
                    simp only [Act.put, List.getElem_toArray, List.getElem_cons_zero, List.getElem_cons_succ, List.setIfInBounds_toArray, List.set_cons_zero, List.set_cons_succ]
                    refine wpAnyH_take (i := 24) (oi := _) (v := ?_) rfl (by kernel_rfl) (by kernel_rfl) (by kernel_rfl) (fun _ _ _ h => h) (Or.inr ⟨by rfl, ?_⟩) hS ?_
                    rotate_left
                    · rfl
                    rotate_left
                    simp only [Act.put, List.getElem_toArray, List.getElem_cons_zero, List.getElem_cons_succ, List.setIfInBounds_toArray, List.set_cons_zero, List.set_cons_succ]
                    refine wpAnyH_take (i := 25) (oi := _) (v := ?_) rfl (by kernel_rfl) (by kernel_rfl) (by kernel_rfl) (fun _ _ _ h => h) (Or.inl ⟨by rfl, ?_⟩) hS ?_
                    rotate_left
                    · (intro w hSw; (try dsimp only at hSw); go_simp; (try with_reducible rfl))
                    rotate_left
                    simp only [Act.put, List.getElem_toArray, List.getElem_cons_zero, List.getElem_cons_succ, List.setIfInBounds_toArray, List.set_cons_zero, List.set_cons_succ]
                    refine wpAnyH_done (by kernel_rfl) ?_ _
                    have HW9 := Lib.hid (HW8.out.next hS)
                    clear hS HS
                    go_wp2
                    go_roundw
                    case rel => exact ⟨k + 1, ys, gs, A, ca, B, cb, vs, vals, aks, HLT.out, (by first | exact round_same HWJ | go_num), Nat.le_succ_of_le HAL.out, HVN.out, HI.out, HW9.out⟩
                    case measure => first | exact round_less HWJ HLT.out | (have h := HLT.out; simp [intOf]; omega)
                · have hm3 : Int.tmod (kd.toNat : Int) 3 = 2 := by rw [show (3 : Int) = ((3 : Nat) : Int) from rfl, tmod_nat (by decide), hk3]; rfl
                  have HPK := Lib.hid (picked_any (Free wr P g (.slice vA aks.length vc)) ys gs (fun i hi => ⟨(HI.out.ok.vals i hi).1, (HI.out.ok.vals i hi).2.1⟩) A ca B cb PS pc ps w5 (HW.out.my.below B5.out) (HRP.out.below HW5.out.t).bytes_bs)
                  go_wp2_with fail
                  refine HPK.out.mono ?_
                  rintro e w6 ⟨⟨vl, left, lvals, rfl, hll, hpk, hvl, own6⟩, b6⟩
                  have hlj : left.length = j := by rw [hll, ← HI.out.vlen]; exact HVN.out
                  have hj0 : 0 < j := by rw [← hlj, hll]; exact HI.out.pos
                  obtain ⟨gl, lcap, lcur, hvl2, hgl1, LB6, hlc1, hlc2, hlc3, hlc⟩ := own_view own6 (by rw [hlj]; exact hj0)
                  have hj100 : j ≤ 1000 := by rw [← hlj, hll]; exact HI.out.ok.short
                  rw [hlj] at hvl2
                  subst hvl2
                  have HLJ := Lib.hid hlj
                  have HLL := Lib.hid hll
                  have HPI := Lib.hid hpk
                  have HVL := Lib.hid hvl
                  have HLC := Lib.hid hlc
                  have HGL := Lib.hid hgl1
                  have HJ1 := Lib.hid hj100
                  have own6' : w6.ownsRow w5.heap.size 29 1 (.slice (some ⟨gl, 0, none⟩) left.length lcap) left.length lvals := by rw [hlj] at own6 ⊢; exact own6
                  have HLF := Lib.hid (hvl.row b6 own6' (T := fun _ => True) (fun _ _ => trivial) trivial (by rw [hlj]; omega))
                  have HW6 := Lib.hid (HW5.out.next b6)
                  have HCR := Lib.hid (HCRA.out _ ys gs vs aks A ca B cb (some ⟨gl, 0, none⟩) lcap j left w6 HI.out hll hlj hpk HW6.out.my.tt HW6.out.mg.tt HLF.out)
                  have HX13 : Hid (wr.heap.size + 1 < w5.heap.size) := X13.lt
                  have HB6 := Lib.hid b6
                  clear c6 p6 y5 HPK own6 own6' hlj hj0 hj100 hll hpk hvl hlc hlc1 hlc2 hlc3 hgl1 b6 Q5
                  have c6 := HW6.out.cfb.cell
                  have p6 := HW6.out.pb.cell
                  go_wp2_with fail
                  refine HCR.out.mono ?_
                  rintro e w7 ⟨⟨A', c', rfl, ry⟩, b7⟩
                  have X7 := (X13.next HB6.out).next b7
                  have x7 := X7.cell
                  have x7f := X7.free
                  have B8 := Lib.hid (below_two (Ext.trans (Ext.trans B5.out HB6.out) b7) (show wr.heap.size ≤ wr.heap.size + 1 by omega) (.slice A' j c') (.slice none 0 0))
                  have X8 := Lib.hid (box_self2 X7 (.slice A' j c') (.slice none 0 0))
                  have L8 := Lib.hid (box_two (LB6.next b7) (show gl ≠ wr.heap.size + 1 by have := HGL.out; have := HX13.out; omega) (.slice A' j c') (.slice none 0 0))
                  have HRY8 := Lib.hid (rdin_two ry (k := wr.heap.size + 1) (fun b hb e => by have := hb.1; have := HX13.out; have := HB6.out.size; omega) (.slice A' j c') (.slice none 0 0))
                  have HS78 := Lib.hid (Nat.le_of_eq (two_size w7 (wr.heap.size + 1) (.slice A' j c') (.slice none 0 0)).symm)
                  have HS6 : Hid (wr.heap.size ≤ w6.heap.size) := Nat.le_trans B5.out.size HB6.out.size
                  clear c6 p6 HCR ry b7 X7 X13 LB6
                  go_upto_region 19 with fail
                  clear x7 x7f
                  generalize (w7.setCell ⟨wr.heap.size + 1, 0, none⟩ (.slice A' j c')).setCell ⟨wr.heap.size + 1, 1, none⟩ (.slice none 0 0) = w8 at *
                  have HW8 := Lib.hid (HW.out.next B8.out)
                  have HRY := Lib.hid (HRY8.out.mono fun b hb => (HW.out.fresh HS6.out hb).next (w' := w8) HS78.out)
                  have HZL : Hid ((ones left).length = j) := (ones_len left).trans HLJ.out
                  have HIz : Hid (LastI X (ones left) [] left aks) := HI.out.crash HLL.out HPI.out
                  generalize ones left = zs at *
                  have HVV : Hid (∀ q (hq : q < left.length), ∃ A6 c6, lvals[q]? = some (.slice A6 left[q].length c6) ∧ RdIn w8 (Free w8 P g (.slice vA aks.length vc)) (.sl .byte) left[q] [.slice A6 left[q].length c6]) := by
                    intro q hq
                    have hq' : q < lvals.length := by rw [HVL.out.1]; exact hq
                    have h1 := HVL.out.2 q hq hq'
                    obtain ⟨A6, c6, h2, _⟩ := rdin_sl.1 h1
                    rw [h2] at h1
                    injection h2 with h2 _
                    exact ⟨A6, c6, (List.getElem?_eq_getElem hq').trans (congrArg some h2), (h1.frame fun b hb => (B8.out.block b hb.1).trans (B5.out.block b hb.1).symm).mono fun b hb => hb.next B8.out.size⟩
                  obtain ⟨wk, rfl⟩ : ∃ z : World, z = wr := ⟨_, rfl⟩
                  go_wp2
                  go_loopw [19] (fun i wr => ∃ (q : Nat), q ≤ j ∧ i = .int .i64 q ∧ w8.grownBy wr (some g) ∧ NowS wr (Free w8 P g (.slice vA aks.length vc)) g (left.take q ++ vs.drop q)) (fun i _ => j - (intOf i).toNat)
                  case atStart => exact ⟨0, by omega, rfl, grown_refl _ _, by rw [List.take_zero, List.drop_zero, List.nil_append]; exact HW8.out.nw⟩
                  case round =>
                    obtain ⟨q, hq, rfl, g9, nw⟩ := hrel
                    have HG9 := Lib.hid g9
                    by_cases hlt2 : q < j
                    · have hql : q < left.length := by rw [HLJ.out]; exact hlt2
                      obtain ⟨A6, c6, h1, h2⟩ := HVV.out q hql
                      have l1 : wr.cell? ⟨gl, q, none⟩ = some (.slice A6 left[q].length c6) := by
                        have h3 := (L8.out.grown g9 (fun e => by have := Option.some.inj e; have := HW.out.lts.2.2; have := HGL.out; have := HX13.out; omega)).cell q
                        rw [h3]
                        rw [← h1]
                        exact HLC.out q (by rw [Nat.mul_one]; exact hql)
                      have hqn : q < (left.take q ++ vs.drop q).length := by rw [List.length_append, List.length_take, List.length_drop, HVN.out, HLJ.out]; omega
                      have fz := nw.free q
                      obtain ⟨A0, l0, c0, m1⟩ : ∃ A0 l0 c0, wr.cell? ⟨g, q, none⟩ = some (.slice A0 l0 c0) := by
                        obtain ⟨A0, c0, m1, _⟩ := nw.at hqn
                        exact ⟨_, _, _, m1⟩
                      have HNQ : Hid (NowS (wr.setCell ⟨g, q, none⟩ (.slice A6 left[q].length c6)) (Free w8 P g (.slice vA aks.length vc)) g (left.take (q + 1) ++ vs.drop (q + 1))) := by
                        have h3 := nw.put hqn (h2.frame fun b hb => g9.block b hb.1 (fun e => hb.2.2.1 (Option.some.inj e)))
                        rw [take_set (by rw [HVN.out]; exact HLJ.out) hql] at h3
                        exact h3
                      have HWJ2 := next_wrap (show j ≤ maxLen by have := HJ1.out; unfold maxLen; omega) hlt2
                      have HLT2 := Lib.hid hlt2
                      generalize left[q].length = ln at *
                      clear hq nw g9 h1 h2 hqn hql
                      go_wp2
                      go_roundw
                      case rel => exact ⟨q + 1, HLT2.out, (by first | exact round_same HWJ2 | go_num), grown_setCell HG9.out _ _, HNQ.out⟩
                      case measure => first | exact round_less HWJ2 HLT2.out | (have h := HLT2.out; simp [intOf]; omega)
                    · have hje : q = j := by omega
                      have HNZ : Hid (NowS wr (Free w8 P g (.slice vA aks.length vc)) g left) := by
                        have e3 : left.take q ++ vs.drop q = left := by rw [hje, List.take_of_length_le (by rw [HLJ.out]; exact Nat.le_refl _), List.drop_of_length_le (by rw [HVN.out]; exact Nat.le_refl _), List.append_nil]
                        rw [e3] at nw
                        exact nw
                      have HWz := Lib.hid (HW8.out.vals' g9 (fun b hb => .inl hb) HNZ.out)
                      have XZ := X8.out.grown g9 (fun e => by have := Option.some.inj e; have := HW.out.lts.2.2; omega)
                      have HRYz := Lib.hid (rdin_told HRY.out g9)
                      clear nw g9 hq
                      have c9 := HWz.out.cfb.cell
                      have x9 := XZ.cell
                      have HCK := Lib.hid (HCHZ.out _ zs _ _ A' c' j _ HIz.out HZL.out HRYz.out)
                      go_wp2_with fail
                      refine HCK.out.mono ?_
                      rintro e wy ⟨rfl, b9⟩
                      have HWy := Lib.hid (HWz.out.next b9)
                      have HWx := Lib.hid (HWy.out.plain0 HZL.out (set2_row HWy.out.pb (.slice A' j c') (.slice none 0 0)) ((HRYz.out.below b9).mono fun b hb => hb.next b9.size))
                      have xy := (XZ.next b9).cell
                      have py := HWy.out.pb.cell
                      have pf := HWy.out.pb.free
                      clear c9 x9 HCK b9 XZ
                      go_wp2
                      go_roundw
                      case rel => exact ⟨k + 1, zs, [], A', c', none, 0, left, vals, aks, HLT.out, (by first | exact round_same HWJ | go_num), Nat.le_succ_of_le HAL.out, HLJ.out, HIz.out, HWx.out⟩
                      case measure => first | exact round_less HWJ HLT.out | (have h := HLT.out; simp [intOf]; omega)
              · have hke : k = dn := by omega
                have HTW := Lib.hid HW.out.t
                clear p5 c5
                subst hke
                have hnle : ¬ (k : Int) < (k : Int) := by omega
                go_wp2
                go_ret
                exact ⟨rfl, HTW.out⟩
theorem modellast_walk (w : World) (c0 : List Value) (x0 : (Ty.st (.prod .u32 (.prod .int (.prod .int (.prod .int (.prod .int (.prod .int .unit))))))).T) (h0 : RdIn w (fun b => b < w.heap.size) (Ty.st (.prod .u32 (.prod .int (.prod .int (.prod .int (.prod .int (.prod .int .unit))))))) x0 c0) (v1 : Value) (x1 : (Ty.sl DeedTy).T) (h1 : RdIn w (fun b => b < w.heap.size) (.sl DeedTy) x1 [v1]) :
    Calls Try.prog 8 #[.agg c0.toArray, v1] w fun e w' => e = .returned (.bool true) ∧ Below w.heap.size w w' := by
  obtain ⟨x, hx⟩ := cfg_deep h0
  rw [hx]
  obtain ⟨D, dc, rfl⟩ := sl_deep h1
  exact last_core x x1 D dc w h1
end Go.Proofs.Ytclbihcggjjgaaa
