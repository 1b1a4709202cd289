/- Layer 10 (super): Write. -/
import Derived.Test.YtgmlhfencidahaaSuper2
namespace Go.Proofs.Ytgmlhfencidahaa
open Go.RowKit
set_option linter.unusedSimpArgs false
set_option linter.unusedVariables false

theorem cput_int (A : Option Addr) (n c : Nat) (bs : List UInt8) (hn : n = 0 ∨ n = 128) (p k x : Nat) (hk : 1 ≤ k ∧ k ≤ 4) (hp : p + k ≤ 128) (hx : x < 256 ^ k) (w : World) (hb : Bs w A n bs)
    (pi ki xi ri : Int) (h1 : pi = (p : Int)) (h2 : ki = (k : Int)) (h3 : xi = (x : Int)) (h4 : ri = (p : Int) + (k : Int)) :
    Calls Try.prog 19 #[.agg #[.slice A n c, .int .i64 pi, .int .i64 0], .int .i64 xi, .int .i64 ki] w fun e w' => ∃ g, e = .returned (.agg #[.slice (some ⟨g, 0, none⟩) 128 128, .int .i64 ri, .int .i64 0]) ∧ w.heap.size ≤ g ∧ Box w' g (putL (wholeL bs) p k x) ∧ Below w.heap.size w w' := by
  have h5 : ri = ((p + k : Nat) : Int) := by omega
  subst h1 h2 h3
  rw [h5]
  exact cput_ok A n c bs hn p k x hk hp hx w hb
theorem sealed_int (g p : Nat) (pi : Int) (h1 : pi = (p : Int)) (L : List UInt8) (w : World) (hB : Box w g L) :
    Calls Try.prog 20 #[.agg #[.slice (some ⟨g, 0, none⟩) 128 128, .int .i64 pi, .int .i64 0]] w fun e w' => ∃ g', e = .returned (.tuple #[.slice (some ⟨g', 0, none⟩) 128 128, .int .i64 0]) ∧ w.heap.size ≤ g' ∧ Box w' g' (sealL L) ∧ Below w.heap.size w w' := by
  subst h1; exact sealed_ok g p L w hB

/-- a super's bytes ahead of the sum -/
def supRaw (id age sq t : Nat) : List UInt8 := le 1 83 ++ le 4 id ++ le 4 age ++ le 4 sq ++ le 1 t
def supBlock (id age sq t : Nat) : List UInt8 := sealL (pad (supRaw id age sq t))
theorem whole_pad {l : List UInt8} (h : l.length ≤ 128) : wholeL (pad l) = pad l := wholeL_full (pad_len h)
theorem raw1 : putL (wholeL []) 0 1 83 = pad (le 1 83) := put_pad' [] 0 1 83 rfl (by decide)
theorem raw2 (id : Nat) : putL (wholeL (pad (le 1 83))) 1 4 id = pad (le 1 83 ++ le 4 id) := by
  rw [whole_pad (by simp [le_len]), put_pad' _ _ _ _ (by simp [le_len]) (by decide)]
theorem raw3 (id age : Nat) : putL (wholeL (pad (le 1 83 ++ le 4 id))) 5 4 age = pad (le 1 83 ++ le 4 id ++ le 4 age) := by
  rw [whole_pad (by simp [le_len]), put_pad' _ _ _ _ (by simp [le_len]) (by decide)]
theorem raw4 (id age sq : Nat) : putL (wholeL (pad (le 1 83 ++ le 4 id ++ le 4 age))) 9 4 sq = pad (le 1 83 ++ le 4 id ++ le 4 age ++ le 4 sq) := by
  rw [whole_pad (by simp [le_len]), put_pad' _ _ _ _ (by simp [le_len]) (by decide)]
theorem raw5 (id age sq t : Nat) : putL (wholeL (pad (le 1 83 ++ le 4 id ++ le 4 age ++ le 4 sq))) 13 1 t = pad (supRaw id age sq t) := by
  rw [whole_pad (by simp [le_len]), put_pad' _ _ _ _ (by simp [le_len]) (by decide)]
  rfl

set_option maxRecDepth 100000 in
theorem pwrite_bad (id age sq : Nat) (t : Int) (ha : age < 4294967296) (hs : sq < 4294967296) (h : ¬ SupOk age sq t) (w : World) :
    Calls Try.prog 10 #[.agg #[.int .u32 (id : Int), .int .u32 (age : Int), .int .u32 (sq : Int), .int .i64 t]] w fun e w' => e = .returned (.tuple #[.slice none 0 0, .int .i64 8]) ∧ Below w.heap.size w w' := by
  have HC := Lib.hid (pcheck_bad id age sq t ha hs h)
  clear ha hs h
  go_enter Try.func10, Try.ntmps10
  go_wp2_with fail
  refine (HC.out _).mono ?_
  rintro e w1 ⟨rfl, b1⟩
  have t1 := Ext.trans (Ext.alloc (Below.refl w.heap.size w) (.cells #[.int .u32 (id : Int), .int .u32 (age : Int), .int .u32 (sq : Int), .int .i64 t] 24)) b1
  go_wp2
  go_ret2
  exact ⟨rfl, t1⟩

set_option maxRecDepth 100000 in
set_option maxHeartbeats 2000000 in
theorem pwrite_ok (id age sq t : Nat) (hi : id < 4294967296) (ha : age < 4294967296) (hs : sq < 4294967296) (h : SupOk age sq t) (w : World) :
    Calls Try.prog 10 #[.agg #[.int .u32 (id : Int), .int .u32 (age : Int), .int .u32 (sq : Int), .int .i64 (t : Int)]] w fun e w' => ∃ g, e = .returned (.tuple #[.slice (some ⟨g, 0, none⟩) 128 128, .int .i64 0]) ∧ w.heap.size ≤ g ∧ Box w' g (supBlock id age sq t) ∧ Below w.heap.size w w' := by
  have HC := Lib.hid (pcheck_ok id age sq t ha hs h)
  have ht : t < 255 := by have := h.2.2.2; omega
  have q1 : IntKind.i64.wrap (id : Int) = id := IntWalk.i64_in _ (by omega)
  have q2 : IntKind.i64.wrap (age : Int) = age := IntWalk.i64_in _ (by omega)
  have q3 : IntKind.i64.wrap (sq : Int) = sq := IntWalk.i64_in _ (by omega)
  have Q1 := Lib.hid q1
  have Q2 := Lib.hid q2
  have Q3 := Lib.hid q3
  clear q1 q2 q3 h
  go_enter Try.func10, Try.ntmps10
  go_wp2_with fail
  have A0 := BoxOf.new w #[.int .u32 (id : Int), .int .u32 (age : Int), .int .u32 (sq : Int), .int .i64 (t : Int)] 24
  have t0 := Ext.alloc (Below.refl w.heap.size w) (.cells #[.int .u32 (id : Int), .int .u32 (age : Int), .int .u32 (sq : Int), .int .i64 (t : Int)] 24)
  refine (HC.out _).mono ?_
  rintro e w1 ⟨rfl, b1⟩
  have A1 := A0.next b1
  have t1 := Ext.trans t0 b1
  clear A0 t0 b1
  go_wp2_with fail
  have q1 := Q1.out
  have q2 := Q2.out
  have q3 := Q3.out
  refine wp_region_held_drew (S := fun w' => Below w.heap.size w w' ∧ BoxOf w' w.heap.size #[.int .u32 (id : Int), .int .u32 (age : Int), .int .u32 (sq : Int), .int .i64 (t : Int)] 24 ∧ ∀ o, w'.cell? ⟨w.heap.size, o, none⟩ = #[.int .u32 (id : Int), .int .u32 (age : Int), .int .u32 (sq : Int), .int .i64 (t : Int)].toList[o]?) (by kernel_rfl) ⟨Ext.drew t1, A1.drew, A1.drew.cell⟩ (fun hS => ?_)
  clear A1 t1
  refine wpAnyH_take (i := 0) (oi := _) (v := ?_) rfl (by kernel_rfl) (by kernel_rfl) (by kernel_rfl) (fun _ _ _ h => h) (Or.inl ⟨by rfl, ?_⟩) hS ?_
  rotate_left
  · (intro w hSw; (try dsimp only at hSw); go_simp; (try with_reducible rfl))
  rotate_left
  simp only [Act.put, List.getElem_toArray, List.getElem_cons_zero, List.getElem_cons_succ, List.setIfInBounds_toArray, List.set_cons_zero, List.set_cons_succ]
  refine wpAnyH_take (i := 2) (oi := _) (v := ?_) rfl (by kernel_rfl) (by kernel_rfl) (by kernel_rfl) (fun _ _ _ h => h) (Or.inl ⟨by rfl, ?_⟩) hS ?_
  rotate_left
  · (intro w hSw; (try dsimp only at hSw); go_simp; (try with_reducible rfl))
  rotate_left
  simp only [Act.put, List.getElem_toArray, List.getElem_cons_zero, List.getElem_cons_succ, List.setIfInBounds_toArray, List.set_cons_zero, List.set_cons_succ]
  refine wpAnyH_take (i := 3) (oi := _) (v := ?_) rfl (by kernel_rfl) (by kernel_rfl) (by kernel_rfl) (fun _ _ _ h => h) (Or.inl ⟨by rfl, ?_⟩) hS ?_
  rotate_left
  · (intro w hSw; (try dsimp only at hSw); go_simp; (try with_reducible rfl))
  rotate_left
  simp only [Act.put, List.getElem_toArray, List.getElem_cons_zero, List.getElem_cons_succ, List.setIfInBounds_toArray, List.set_cons_zero, List.set_cons_succ]
  refine wpAnyH_take (i := 4) (oi := _) (v := ?_) rfl (by kernel_rfl) (by kernel_rfl) (by kernel_rfl) (fun _ _ _ h => h) (Or.inl ⟨by rfl, ?_⟩) hS ?_
  rotate_left
  · (intro w hSw; (try dsimp only at hSw); go_simp; (try with_reducible rfl))
  rotate_left
  simp only [Act.put, List.getElem_toArray, List.getElem_cons_zero, List.getElem_cons_succ, List.setIfInBounds_toArray, List.set_cons_zero, List.set_cons_succ]
  refine wpAnyH_take (i := 6) (oi := _) (v := ?_) rfl (by kernel_rfl) (by kernel_rfl) (by kernel_rfl) (fun _ _ _ h => h) (Or.inl ⟨by rfl, ?_⟩) hS ?_
  rotate_left
  · (intro w hSw; (try dsimp only at hSw); go_simp; (try with_reducible rfl))
  rotate_left
  simp only [Act.put, List.getElem_toArray, List.getElem_cons_zero, List.getElem_cons_succ, List.setIfInBounds_toArray, List.set_cons_zero, List.set_cons_succ]
  refine wpAnyH_take (i := 7) (oi := _) (v := ?_) rfl (by kernel_rfl) (by kernel_rfl) (by kernel_rfl) (fun _ _ _ h => h) (Or.inl ⟨by rfl, ?_⟩) hS ?_
  rotate_left
  · (intro w hSw; (try dsimp only at hSw); go_simp; (try with_reducible rfl))
  rotate_left
  simp only [Act.put, List.getElem_toArray, List.getElem_cons_zero, List.getElem_cons_succ, List.setIfInBounds_toArray, List.set_cons_zero, List.set_cons_succ]
  refine wpAnyH_take (i := 8) (oi := _) (v := ?_) rfl (by kernel_rfl) (by kernel_rfl) (by kernel_rfl) (fun _ _ _ h => h) (Or.inl ⟨by rfl, ?_⟩) hS ?_
  rotate_left
  · (intro w hSw; (try dsimp only at hSw); go_simp; (try with_reducible rfl))
  rotate_left
  simp only [Act.put, List.getElem_toArray, List.getElem_cons_zero, List.getElem_cons_succ, List.setIfInBounds_toArray, List.set_cons_zero, List.set_cons_succ]
  refine wpAnyH_take (i := 10) (oi := _) (v := ?_) rfl (by kernel_rfl) (by kernel_rfl) (by kernel_rfl) (fun _ _ _ h => h) (Or.inl ⟨by rfl, ?_⟩) hS ?_
  rotate_left
  · (intro w hSw; (try dsimp only at hSw); go_simp; (try with_reducible rfl))
  rotate_left
  simp only [Act.put, List.getElem_toArray, List.getElem_cons_zero, List.getElem_cons_succ, List.setIfInBounds_toArray, List.set_cons_zero, List.set_cons_succ]
  refine wpAnyH_take (i := 11) (oi := _) (v := ?_) rfl (by kernel_rfl) (by kernel_rfl) (by kernel_rfl) (fun _ _ _ h => h) (Or.inl ⟨by rfl, ?_⟩) hS ?_
  rotate_left
  · (intro w hSw; (try dsimp only at hSw); go_simp; (try with_reducible rfl))
  rotate_left
  simp only [Act.put, List.getElem_toArray, List.getElem_cons_zero, List.getElem_cons_succ, List.setIfInBounds_toArray, List.set_cons_zero, List.set_cons_succ]
  refine wpAnyH_take (i := 12) (oi := _) (v := ?_) rfl (by kernel_rfl) (by kernel_rfl) (by kernel_rfl) (fun _ _ _ h => h) (Or.inl ⟨by rfl, ?_⟩) hS ?_
  rotate_left
  · (intro w hSw; (try dsimp only at hSw); go_simp; (try with_reducible rfl))
  rotate_left
  simp only [Act.put, List.getElem_toArray, List.getElem_cons_zero, List.getElem_cons_succ, List.setIfInBounds_toArray, List.set_cons_zero, List.set_cons_succ]
  refine wpAnyH_take (i := 14) (oi := _) (v := ?_) rfl (by kernel_rfl) (by kernel_rfl) (by kernel_rfl) (fun _ _ _ h => h) (Or.inl ⟨by rfl, ?_⟩) hS ?_
  rotate_left
  · (intro w hSw; (try dsimp only at hSw); go_simp; (try with_reducible rfl))
  rotate_left
  simp only [Act.put, List.getElem_toArray, List.getElem_cons_zero, List.getElem_cons_succ, List.setIfInBounds_toArray, List.set_cons_zero, List.set_cons_succ]
  refine wpAnyH_take (i := 15) (oi := _) (v := ?_) rfl (by kernel_rfl) (by kernel_rfl) (by kernel_rfl) (fun _ _ _ h => h) (Or.inl ⟨by rfl, ?_⟩) hS ?_
  rotate_left
  · (intro w hSw; (try dsimp only at hSw); go_simp; (try with_reducible rfl))
  rotate_left
  simp only [Act.put, List.getElem_toArray, List.getElem_cons_zero, List.getElem_cons_succ, List.setIfInBounds_toArray, List.set_cons_zero, List.set_cons_succ]
  clear q1 q2 q3
  refine wpAnyH_ready (rs := [1]) (by kernel_rfl) (by simp) ?_
  refine AllReadyH.cons rfl (fun K hK => ?_) AllReadyH.nil
  rw [if_pos (by rfl)]
  go_simp
  refine (cput_int none 0 0 [] (.inl rfl) 0 1 83 (by omega) (by omega) (by decide) _ (Bs.nil _ _) 0 1 83 1 (by omega) (by omega) rfl (by omega)).mono ?_
  rintro e v2 ⟨g2, rfl, hg, HB, b5⟩
  refine hK.out _ _ ⟨Ext.trans hS.1 b5, hS.2.1.next b5, (hS.2.1.next b5).cell⟩ (fun hS' => ?_)
  have hgg2 : w.heap.size < g2 := Nat.lt_of_lt_of_le hS.2.1.lt hg
  have HB2 : Box v2 g2 (pad (le 1 83)) := by rw [raw1] at HB; exact HB
  clear hK K hS b5 HB hg
  have hS := hS'
  clear hS'
  try simp only [Act.put, List.getElem_toArray, List.getElem_cons_zero, List.getElem_cons_succ, List.setIfInBounds_toArray, List.set_cons_zero, List.set_cons_succ]
  refine wpAnyH_ready (rs := [5]) (by kernel_rfl) (by simp) ?_
  refine AllReadyH.cons rfl (fun K hK => ?_) AllReadyH.nil
  rw [if_pos (by rfl)]
  go_simp
  refine (cput_int (some ⟨g2, 0, none⟩) 128 128 _ (.inr rfl) 1 4 id (by omega) (by omega) (by omega) _ HB2.bs 1 4 id 5 (by omega) (by omega) rfl (by omega)).mono ?_
  rintro e v3 ⟨g3, rfl, hg, HB, b5⟩
  refine hK.out _ _ ⟨Ext.trans hS.1 b5, hS.2.1.next b5, (hS.2.1.next b5).cell⟩ (fun hS' => ?_)
  have hgg3 : w.heap.size < g3 := Nat.lt_of_lt_of_le hS.2.1.lt hg
  have HB3 : Box v3 g3 (pad (le 1 83 ++ le 4 id)) := by rw [raw2] at HB; exact HB
  clear hK K hS b5 HB hg
  have hS := hS'
  clear hS'
  try simp only [Act.put, List.getElem_toArray, List.getElem_cons_zero, List.getElem_cons_succ, List.setIfInBounds_toArray, List.set_cons_zero, List.set_cons_succ]
  refine wpAnyH_ready (rs := [9]) (by kernel_rfl) (by simp) ?_
  refine AllReadyH.cons rfl (fun K hK => ?_) AllReadyH.nil
  rw [if_pos (by rfl)]
  go_simp
  refine (cput_int (some ⟨g3, 0, none⟩) 128 128 _ (.inr rfl) 5 4 age (by omega) (by omega) (by omega) _ HB3.bs 5 4 age 9 (by omega) (by omega) rfl (by omega)).mono ?_
  rintro e v4 ⟨g4, rfl, hg, HB, b5⟩
  refine hK.out _ _ ⟨Ext.trans hS.1 b5, hS.2.1.next b5, (hS.2.1.next b5).cell⟩ (fun hS' => ?_)
  have hgg4 : w.heap.size < g4 := Nat.lt_of_lt_of_le hS.2.1.lt hg
  have HB4 : Box v4 g4 (pad (le 1 83 ++ le 4 id ++ le 4 age)) := by rw [raw3] at HB; exact HB
  clear hK K hS b5 HB hg
  have hS := hS'
  clear hS'
  try simp only [Act.put, List.getElem_toArray, List.getElem_cons_zero, List.getElem_cons_succ, List.setIfInBounds_toArray, List.set_cons_zero, List.set_cons_succ]
  refine wpAnyH_ready (rs := [13]) (by kernel_rfl) (by simp) ?_
  refine AllReadyH.cons rfl (fun K hK => ?_) AllReadyH.nil
  rw [if_pos (by rfl)]
  go_simp
  refine (cput_int (some ⟨g4, 0, none⟩) 128 128 _ (.inr rfl) 9 4 sq (by omega) (by omega) (by omega) _ HB4.bs 9 4 sq 13 (by omega) (by omega) rfl (by omega)).mono ?_
  rintro e v5 ⟨g5, rfl, hg, HB, b5⟩
  refine hK.out _ _ ⟨Ext.trans hS.1 b5, hS.2.1.next b5, (hS.2.1.next b5).cell⟩ (fun hS' => ?_)
  have hgg5 : w.heap.size < g5 := Nat.lt_of_lt_of_le hS.2.1.lt hg
  have HB5 : Box v5 g5 (pad (le 1 83 ++ le 4 id ++ le 4 age ++ le 4 sq)) := by rw [raw4] at HB; exact HB
  clear hK K hS b5 HB hg
  have hS := hS'
  clear hS'
  try simp only [Act.put, List.getElem_toArray, List.getElem_cons_zero, List.getElem_cons_succ, List.setIfInBounds_toArray, List.set_cons_zero, List.set_cons_succ]
  refine wpAnyH_ready (rs := [16]) (by kernel_rfl) (by simp) ?_
  refine AllReadyH.cons rfl (fun K hK => ?_) AllReadyH.nil
  rw [if_pos (by rfl)]
  go_simp
  refine (cput_int (some ⟨g5, 0, none⟩) 128 128 _ (.inr rfl) 13 1 t (by omega) (by omega) (by omega) _ HB5.bs 13 1 t 14 (by omega) (by omega) rfl (by omega)).mono ?_
  rintro e v6 ⟨g6, rfl, hg, HB, b5⟩
  refine hK.out _ _ ⟨Ext.trans hS.1 b5, hS.2.1.next b5, (hS.2.1.next b5).cell⟩ (fun hS' => ?_)
  have hgg6 : w.heap.size < g6 := Nat.lt_of_lt_of_le hS.2.1.lt hg
  have HB6 : Box v6 g6 (pad (supRaw id age sq t)) := by rw [raw5] at HB; exact HB
  clear hK K hS b5 HB hg
  have hS := hS'
  clear hS'
  try simp only [Act.put, List.getElem_toArray, List.getElem_cons_zero, List.getElem_cons_succ, List.setIfInBounds_toArray, List.set_cons_zero, List.set_cons_succ]
  refine wpAnyH_ready (rs := [17]) (by kernel_rfl) (by simp) ?_
  refine AllReadyH.cons rfl (fun K hK => ?_) AllReadyH.nil
  rw [if_pos (by rfl)]
  go_simp
  refine (sealed_int g6 14 14 rfl _ _ HB6).mono ?_
  rintro e v7 ⟨g7, rfl, hg, HB7, b5⟩
  refine hK.out _ _ ⟨Ext.trans hS.1 b5, hS.2.1.next b5, (hS.2.1.next b5).cell⟩ (fun hS' => ?_)
  have hgg7 : w.heap.size < g7 := Nat.lt_of_lt_of_le hS.2.1.lt hg
  clear hK K hS b5 hg
  have hS := hS'
  clear hS'
  try simp only [Act.put, List.getElem_toArray, List.getElem_cons_zero, List.getElem_cons_succ, List.setIfInBounds_toArray, List.set_cons_zero, List.set_cons_succ]
  refine wpAnyH_take (i := 18) (oi := _) (v := ?_) rfl (by kernel_rfl) (by kernel_rfl) (by kernel_rfl) (fun _ _ _ h => h) (Or.inl ⟨by rfl, ?_⟩) hS ?_
  rotate_left
  · (intro w hSw; (try dsimp only at hSw); go_simp; (try with_reducible rfl))
  rotate_left
  simp only [Act.put, List.getElem_toArray, List.getElem_cons_zero, List.getElem_cons_succ, List.setIfInBounds_toArray, List.set_cons_zero, List.set_cons_succ]
  refine wpAnyH_take (i := 19) (oi := _) (v := ?_) rfl (by kernel_rfl) (by kernel_rfl) (by kernel_rfl) (fun _ _ _ h => h) (Or.inl ⟨by rfl, ?_⟩) hS ?_
  rotate_left
  · (intro w hSw; (try dsimp only at hSw); go_simp; (try with_reducible rfl))
  rotate_left
  simp only [Act.put, List.getElem_toArray, List.getElem_cons_zero, List.getElem_cons_succ, List.setIfInBounds_toArray, List.set_cons_zero, List.set_cons_succ]
  refine wpAnyH_take (i := 20) (oi := _) (v := ?_) rfl (by kernel_rfl) (by kernel_rfl) (by kernel_rfl) (fun _ _ _ h => h) (Or.inl ⟨by rfl, ?_⟩) hS ?_
  rotate_left
  · (intro w hSw; (try dsimp only at hSw); go_simp; (try with_reducible rfl))
  rotate_left
  simp only [Act.put, List.getElem_toArray, List.getElem_cons_zero, List.getElem_cons_succ, List.setIfInBounds_toArray, List.set_cons_zero, List.set_cons_succ]
  refine wpAnyH_take (i := 21) (oi := _) (v := ?_) rfl (by kernel_rfl) (by kernel_rfl) (by kernel_rfl) (fun _ _ _ h => h) (Or.inl ⟨by rfl, ?_⟩) hS ?_
  rotate_left
  · (intro w hSw; (try dsimp only at hSw); go_simp; (try with_reducible rfl))
  rotate_left
  simp only [Act.put, List.getElem_toArray, List.getElem_cons_zero, List.getElem_cons_succ, List.setIfInBounds_toArray, List.set_cons_zero, List.set_cons_succ]
  refine wpAnyH_done (by kernel_rfl) ?_ _
  have t8 := hS.1
  clear hS
  go_wp2
  go_ret2
  exact ⟨g7, rfl, by omega, HB7, t8⟩
end Go.Proofs.Ytgmlhfencidahaa
