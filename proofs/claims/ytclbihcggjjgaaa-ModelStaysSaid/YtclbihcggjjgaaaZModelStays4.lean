/- What this claim needs of my texts, merged (part 4). -/
import Derived.Lib.SliceRun
import Derived.Deep.RegionLaw
import Derived.Test.YtclbihcggjjgaaaZModelStays3
/- Layer 30 (model): a plain array in memory of one's own, laid out so that it can be written: its rows lie apart. -/
namespace Go.Proofs.Ytclbihcggjjgaaa
open Go Go.RowKit
set_option linter.unusedVariables false

/-! ### what changes -/
/-- blocks of type t may have turned, no others -/
def But (t : TypeId) (w w' : World) : Prop := ∀ b, b < w.heap.size → w'.heap[b]? = w.heap[b]? ∨ ∃ cs, BoxOf w b cs t
theorem But.of_below {t : TypeId} {w w' : World} (h : Below w.heap.size w w') : But t w w' := fun b hb => .inl (h.block b hb)
theorem BoxOf.but {t t' : TypeId} {w w' : World} {b : Nat} {cs : Array Value} (h : BoxOf w b cs t') (hb : But t w w') (ht : t' ≠ t) : BoxOf w' b cs t' := by
  rcases hb b h.lt with e | ⟨ds, e⟩
  · unfold BoxOf at *
    rw [e]; exact h
  · unfold BoxOf at *
    rw [h] at e
    injection e with e
    injection e with _ e
    exact absurd e ht
theorem box_diff {w : World} {b b' : Nat} {cs ds : Array Value} {t t' : TypeId} (h : BoxOf w b cs t) (h' : BoxOf w b' ds t') (ht : t ≠ t') : b ≠ b' := by
  intro e
  subst e
  unfold BoxOf at *
  rw [h] at h'
  injection h' with e
  injection e with _ e
  exact ht e
/-! ### rows -/
/-- a row of values: its block, its place, its room -/
def RowS (w : World) (By : Nat → Prop) (lo g o c : Nat) (zs : List (List UInt8)) : Prop :=
  ∃ cur : Array Value, BoxOf w g cur 29 ∧ zs.length ≤ c ∧ c ≤ maxLen ∧ o + c ≤ cur.size ∧ (lo ≤ g ∧ ¬ By g) ∧
    ∀ k (h : k < zs.length), ∃ u, cur.toList[o + k]? = some u ∧ RdIn w By (.sl .byte) zs[k] [u]
/-- the rows of a plain array -/
def MayS (w : World) (By : Nat → Prop) (lo R : Nat) (ys : List (List (List UInt8))) : Prop :=
  ∃ (cells : Array Value) (gf of cf : Nat → Nat), BoxOf w R cells 30 ∧ (lo ≤ R ∧ ¬ By R) ∧
    (∀ i (h : i < ys.length), cells.toList[i]? = some (.slice (some ⟨gf i, of i, none⟩) (ys[i]).length (cf i)) ∧ RowS w By lo (gf i) (of i) (cf i) ys[i]) ∧
    (∀ i j, i < ys.length → j < ys.length → gf i = gf j → i = j)
theorem RowS.frame {w w' : World} {By By' : Nat → Prop} {lo g o c : Nat} {zs : List (List UInt8)} (h : RowS w By lo g o c zs) (hg : w'.heap[g]? = w.heap[g]?) (hb : ∀ b, By b → w'.heap[b]? = w.heap[b]?) (hB : ∀ b, By b → By' b) (hn : ¬ By' g) : RowS w' By' lo g o c zs := by
  obtain ⟨cur, h1, h2, h3, h4, h5, h6⟩ := h
  refine ⟨cur, by unfold BoxOf at *; rw [hg]; exact h1, h2, h3, h4, ⟨h5.1, hn⟩, fun k hk => ?_⟩
  obtain ⟨u, h7, h8⟩ := h6 k hk
  exact ⟨u, h7, (h8.frame hb).mono hB⟩
theorem MayS.but {w w' : World} {By : Nat → Prop} {lo R : Nat} {ys : List (List (List UInt8))} {t : TypeId} (h : MayS w By lo R ys) (ht1 : 30 ≠ t) (ht2 : 29 ≠ t) (hb : But t w w') (hB : ∀ b, By b → w'.heap[b]? = w.heap[b]?) : MayS w' By lo R ys := by
  obtain ⟨cells, gf, of, cf, h1, h2, h3, h4⟩ := h
  refine ⟨cells, gf, of, cf, h1.but hb ht1, h2, fun i hi => ⟨(h3 i hi).1, ?_⟩, h4⟩
  obtain ⟨cur, k1, k2, k3, k4, k5, k6⟩ := (h3 i hi).2
  refine ⟨cur, k1.but hb ht2, k2, k3, k4, k5, fun k hk => ?_⟩
  obtain ⟨u, h7, h8⟩ := k6 k hk
  exact ⟨u, h7, h8.frame hB⟩
/-- one row is laid open, and laid anew -/
theorem MayS.row {w : World} {By : Nat → Prop} {lo R : Nat} {ys : List (List (List UInt8))} (h : MayS w By lo R ys) {k : Nat} (hk : k < ys.length) :
    ∃ (cells : Array Value) (g o c : Nat), BoxOf w R cells 30 ∧ (lo ≤ R ∧ ¬ By R) ∧ cells.toList[k]? = some (.slice (some ⟨g, o, none⟩) (ys[k]).length c) ∧ RowS w By lo g o c ys[k] ∧
      ∀ (w' : World) (By' : Nat → Prop) (g' o' c' : Nat) (zs : List (List UInt8)), (∀ b, b < w.heap.size → b ≠ R → b ≠ g → w'.heap[b]? = w.heap[b]?) →
        BoxOf w' R (cells.setIfInBounds k (.slice (some ⟨g', o', none⟩) zs.length c')) 30 → RowS w' By' lo g' o' c' zs → (g' = g ∨ w.heap.size ≤ g') →
        (∀ b, By b → b < w.heap.size ∧ By' b) → (∀ b, b < w.heap.size → By' b → By b) → MayS w' By' lo R (ys.set k zs) := by
  obtain ⟨cells, gf, of, cf, h1, h2, h3, h4⟩ := h
  refine ⟨cells, gf k, of k, cf k, h1, h2, (h3 k hk).1, (h3 k hk).2, ?_⟩
  intro w' By' g' o' c' zs hf hR hrow hg hB hB'
  have hlt : ∀ i, i < ys.length → gf i < w.heap.size := fun i hi => by
    obtain ⟨cur, k1, _⟩ := (h3 i hi).2
    exact k1.lt
  have hnB : ∀ i, i < ys.length → ¬ By (gf i) := fun i hi => by
    obtain ⟨cur, _, _, _, _, k5, _⟩ := (h3 i hi).2
    exact k5.2
  have hkc : k < cells.toList.length := (List.getElem?_eq_some_iff.1 (h3 k hk).1).1
  refine ⟨_, fun i => if i = k then g' else gf i, fun i => if i = k then o' else of i, fun i => if i = k then c' else cf i, hR, ⟨h2.1, fun h => h2.2 (hB' R h1.lt h)⟩, fun i hi => ?_, fun i j hi hj e => ?_⟩
  · rw [List.length_set] at hi
    by_cases e : i = k
    · subst e
      simp only [if_true, List.getElem_set_self]
      exact ⟨by rw [Array.toList_setIfInBounds, List.getElem?_set_self hkc], hrow⟩
    · simp only [if_neg e, List.getElem_set_ne (fun h => e h.symm)]
      refine ⟨?_, ?_⟩
      · rw [Array.toList_setIfInBounds, List.getElem?_set_ne (fun h => e h.symm)]
        exact (h3 i hi).1
      · have hne : gf i ≠ gf k := fun h => e (h4 i k hi hk h)
        have hneR : gf i ≠ R := by
          obtain ⟨cur, k1, _⟩ := (h3 i hi).2
          exact box_diff k1 h1 (by decide)
        refine (h3 i hi).2.frame (hf _ (hlt i hi) hneR hne) (fun b hb => hf b (hB b hb).1 (fun e => h2.2 (e ▸ hb)) (fun e => hnB k hk (e ▸ hb))) (fun b hb => (hB b hb).2) (fun h => hnB i hi (hB' _ (hlt i hi) h))
  · rw [List.length_set] at hi hj
    by_cases ei : i = k <;> by_cases ej : j = k
    · rw [ei, ej]
    · subst ei
      simp only [if_true, if_neg ej] at e
      rcases hg with hg | hg
      · exact h4 i j hi hj (hg.symm.trans e)
      · have := hlt j hj; omega
    · subst ej
      simp only [if_true, if_neg ei] at e
      rcases hg with hg | hg
      · exact h4 i j hi hj (e.trans hg)
      · have := hlt i hi; omega
    · simp only [if_neg ei, if_neg ej] at e
      exact h4 i j hi hj e
theorem MayS.lt {w : World} {By : Nat → Prop} {lo R : Nat} {ys : List (List (List UInt8))} (h : MayS w By lo R ys) : R < w.heap.size := by
  obtain ⟨cells, gf, of, cf, h1, h2, h3, h4⟩ := h
  exact h1.lt
theorem RowS.lt {w : World} {By : Nat → Prop} {lo g o c : Nat} {zs : List (List UInt8)} (h : RowS w By lo g o c zs) : g < w.heap.size := by
  obtain ⟨cur, h1, _⟩ := h
  exact h1.lt
/-- such a plain array reads -/
theorem RowS.rdin {w : World} {By : Nat → Prop} {lo g o c : Nat} {zs : List (List UInt8)} (h : RowS w By lo g o c zs) (hB : ∀ b, By b → NewB lo w b) (hz : zs.length ≤ 1000) : RdIn w (NewB lo w) (.sl (.sl .byte)) zs [.slice (some ⟨g, o, none⟩) zs.length c] := by
  obtain ⟨cur, h1, h2, h3, h4, h5, h6⟩ := h
  refine rdin_sl.2 ⟨_, _, rfl, h2, h3, by show zs.length * 24 ≤ _; omega, .inr ⟨g, o, rfl, ⟨h5.1, h1.lt, _, _, h1⟩, fun i hi => ?_⟩⟩
  obtain ⟨u, h7, h8⟩ := h6 i hi
  refine ⟨[u], fun j hj => ?_, h8.mono hB⟩
  have hj0 : j = 0 := by have : j < 1 := hj; omega
  subst hj0
  show w.cell? ⟨g, o + i * 1 + 0, none⟩ = some u
  rw [Nat.mul_one, Nat.add_zero, h1.cell]
  exact h7
theorem MayS.rdin {w : World} {By : Nat → Prop} {lo R : Nat} {ys : List (List (List UInt8))} (h : MayS w By lo R ys) {cR : Nat} (hc : ys.length ≤ cR ∧ cR ≤ maxLen) (hl : ys.length ≤ 1000) (hB : ∀ b, By b → NewB lo w b) (hz : ∀ i (hi : i < ys.length), (ys[i]).length ≤ 1000) : RdIn w (NewB lo w) (.sl (.sl (.sl .byte))) ys [.slice (some ⟨R, 0, none⟩) ys.length cR] := by
  obtain ⟨cells, gf, of, cf, h1, h2, h3, h4⟩ := h
  refine rdin_sl.2 ⟨_, _, rfl, hc.1, hc.2, by show ys.length * 24 ≤ _; omega, .inr ⟨R, 0, rfl, ⟨h2.1, h1.lt, _, _, h1⟩, fun i hi => ?_⟩⟩
  refine ⟨_, fun j hj => ?_, (h3 i hi).2.rdin hB (hz i hi)⟩
  have hj0 : j = 0 := by have : j < 1 := hj; omega
  subst hj0
  show w.cell? ⟨R, 0 + i * 1 + 0, none⟩ = some _
  rw [Nat.mul_one, Nat.add_zero, Nat.zero_add, h1.cell]
  exact (h3 i hi).1

/-! ### requests -/
/-- marks: their block -/
def MkS (w : World) (By : Nat → Prop) (lo : Nat) (v : Value) (b : Nat) (ms : List Int) : Prop :=
  (∀ x ∈ ms, IsInt x) ∧ ∃ A c, v = .slice A ms.length c ∧ ms.length ≤ c ∧ c ≤ maxLen ∧ ms.length * 8 ≤ 140737488355328 ∧
    (ms = [] ∨ ∃ o cur, A = some ⟨b, o, none⟩ ∧ BoxOf w b cur 3 ∧ (lo ≤ b ∧ ¬ By b) ∧ ∀ q (h : q < ms.length), cur.toList[o + q]? = some (.int .i64 ms[q]))
/-- a request's cells -/
def GoE (w : World) (By : Nat → Prop) (lo : Nat) (at' : Nat → Option Value) (b : Nat) (g : GoTy.T) : Prop :=
  ∃ vd vm, (at' 0 = some (.int .i64 (nuOf g)) ∧ at' 1 = some (.int .u8 ((kiOf g).toNat : Int)) ∧ at' 2 = some (.int .i64 (atOf g)) ∧ at' 3 = some (.int .i64 (manyOf g)) ∧ at' 4 = some vd ∧ at' 5 = some vm) ∧
    (IsInt (nuOf g) ∧ IsInt (atOf g) ∧ IsInt (manyOf g)) ∧ RdIn w By (.sl .byte) (datOf g) [vd] ∧ MkS w By lo vm b (mksOf g)
def GoS (w : World) (By : Nat → Prop) (lo : Nat) (B : Option Addr) (d : Nat) (gs : List GoTy.T) : Prop :=
  gs = [] ∨ ∃ (G o : Nat) (cells : Array Value) (bf : Nat → Nat), B = some ⟨G, o, none⟩ ∧ BoxOf w G cells 64 ∧ (lo ≤ G ∧ ¬ By G ∧ o + d * 6 ≤ cells.size) ∧
    (∀ j (h : j < gs.length), GoE w By lo (fun q => cells.toList[o + j * 6 + q]?) (bf j) gs[j]) ∧
    (∀ i j (hi : i < gs.length) (hj : j < gs.length), mksOf gs[i] ≠ [] → mksOf gs[j] ≠ [] → bf i = bf j → i = j)
theorem MkS.frame {w w' : World} {By By' : Nat → Prop} {lo : Nat} {v : Value} {b : Nat} {ms : List Int} (h : MkS w By lo v b ms) (hf : ms ≠ [] → w'.heap[b]? = w.heap[b]?) (hB : b < w.heap.size → By' b → By b) : MkS w' By' lo v b ms := by
  obtain ⟨h0, A, c, h1, h2, h3, h4, h5⟩ := h
  refine ⟨h0, A, c, h1, h2, h3, h4, ?_⟩
  rcases h5 with h5 | ⟨o, cur, h6, h7, h8, h9⟩
  · exact .inl h5
  · by_cases he : ms = []
    · exact .inl he
    · exact .inr ⟨o, cur, h6, by have := hf he; unfold BoxOf at *; rw [this]; exact h7, ⟨h8.1, fun h => h8.2 (hB h7.lt h)⟩, h9⟩
theorem GoE.frame {w w' : World} {By By' : Nat → Prop} {lo : Nat} {at' at2 : Nat → Option Value} {b : Nat} {g : GoTy.T} (h : GoE w By lo at' b g) (ha : ∀ q, q < 6 → at2 q = at' q) (hf : mksOf g ≠ [] → w'.heap[b]? = w.heap[b]?) (hb : ∀ b, By b → w'.heap[b]? = w.heap[b]?) (hB : ∀ b, By b → By' b) (hB' : ∀ b, b < w.heap.size → By' b → By b) : GoE w' By' lo at2 b g := by
  obtain ⟨vd, vm, ⟨h0, h1, h2, h3, h4, h5⟩, h6, h7, h8⟩ := h
  exact ⟨vd, vm, ⟨by rw [ha 0 (by decide)]; exact h0, by rw [ha 1 (by decide)]; exact h1, by rw [ha 2 (by decide)]; exact h2, by rw [ha 3 (by decide)]; exact h3, by rw [ha 4 (by decide)]; exact h4, by rw [ha 5 (by decide)]; exact h5⟩, h6, (h7.frame hb).mono hB, h8.frame hf (hB' b)⟩
/-- what else may turn: blocks of another type; bytes may come -/
theorem GoS.but {w w' : World} {By By' : Nat → Prop} {lo : Nat} {B : Option Addr} {d : Nat} {gs : List GoTy.T} {t : TypeId} (h : GoS w By lo B d gs) (ht1 : 64 ≠ t) (ht2 : 3 ≠ t) (hb : But t w w') (hB : ∀ b, By b → w'.heap[b]? = w.heap[b]?) (hBB : ∀ b, By b → By' b) (hBn : ∀ b, b < w.heap.size → By' b → By b) : GoS w' By' lo B d gs := by
  rcases h with h | ⟨G, o, cells, bf, h1, h2, h3, h4, h5⟩
  · exact .inl h
  · refine .inr ⟨G, o, cells, bf, h1, h2.but hb ht1, ⟨h3.1, fun h => h3.2.1 (hBn G h2.lt h), h3.2.2⟩, fun j hj => ?_, h5⟩
    obtain ⟨vd, vm, k0, k1, k2, k3⟩ := h4 j hj
    refine ⟨vd, vm, k0, k1, (k2.frame hB).mono hBB, ?_⟩
    obtain ⟨m0, A, c, m1, m2, m3, m4, m5⟩ := k3
    refine ⟨m0, A, c, m1, m2, m3, m4, ?_⟩
    rcases m5 with m5 | ⟨o', cur, m6, m7, m8, m9⟩
    · exact .inl m5
    · exact .inr ⟨o', cur, m6, m7.but hb ht2, ⟨m8.1, fun h => m8.2 (hBn _ m7.lt h)⟩, m9⟩
theorem MayS.mono {w w' : World} {By By' : Nat → Prop} {lo R : Nat} {ys : List (List (List UInt8))} (h : MayS w By lo R ys) (hb : Below w.heap.size w w') (hlt : ∀ b, By b → b < w.heap.size) (hBB : ∀ b, By b → By' b) (hBn : ∀ b, b < w.heap.size → By' b → By b) : MayS w' By' lo R ys := by
  obtain ⟨cells, gf, of, cf, h1, h2, h3, h4⟩ := h
  refine ⟨cells, gf, of, cf, h1.next hb, ⟨h2.1, fun h => h2.2 (hBn _ h1.lt h)⟩, fun i hi => ⟨(h3 i hi).1, ?_⟩, h4⟩
  have hl := (h3 i hi).2.lt
  refine (h3 i hi).2.frame (hb.block _ hl) (fun b hb' => hb.block b (hlt b hb')) hBB (fun h => ?_)
  obtain ⟨cur, _, _, _, _, k5, _⟩ := (h3 i hi).2
  exact k5.2 (hBn _ hl h)
theorem GoS.mono {w w' : World} {By By' : Nat → Prop} {lo : Nat} {B : Option Addr} {d : Nat} {gs : List GoTy.T} (h : GoS w By lo B d gs) (hb : Below w.heap.size w w') (hlt : ∀ b, By b → b < w.heap.size) (hBB : ∀ b, By b → By' b) (hBn : ∀ b, b < w.heap.size → By' b → By b) : GoS w' By' lo B d gs :=
  h.but (t := 29) (by decide) (by decide) (But.of_below hb) (fun b hb' => hb.block b (hlt b hb')) hBB hBn
theorem MkS.rdin {w : World} {By : Nat → Prop} {lo : Nat} {v : Value} {b : Nat} {ms : List Int} (h : MkS w By lo v b ms) : RdIn w (NewB lo w) (.sl .int) ms [v] := by
  obtain ⟨h0, A, c, rfl, h2, h3, h4, h5⟩ := h
  refine rdin_sl.2 ⟨_, _, rfl, h2, h3, h4, ?_⟩
  rcases h5 with rfl | ⟨o, cur, h6, h7, h8, h9⟩
  · exact .inl rfl
  · refine .inr ⟨b, o, h6, ⟨h8.1, h7.lt, _, _, h7⟩, fun i hi => ⟨[.int .i64 (ms[i]'hi)], fun j hj => ?_, rdin_int.2 ⟨rfl, h0 _ (List.getElem_mem hi)⟩⟩⟩
    have hj0 : j = 0 := by have : j < 1 := hj; omega
    subst hj0
    show w.cell? ⟨b, o + i * 1 + 0, none⟩ = _
    rw [Nat.mul_one, Nat.add_zero, h7.cell]
    exact h9 i hi
theorem going_mk' {w : World} {S : Nat → Prop} {g : GoTy.T} {v u : Value} (h0 : IsInt (nuOf g)) (h1 : IsInt (atOf g)) (h2 : IsInt (manyOf g)) (h : RdIn w S (.sl .byte) (datOf g) [v]) (h3 : RdIn w S (.sl .int) (mksOf g) [u]) : RdIn w S GoTy g [.int .i64 (nuOf g), .int .u8 ((kiOf g).toNat : Int), .int .i64 (atOf g), .int .i64 (manyOf g), v, u] := by
  obtain ⟨nu, ⟨ki, a, y, bs, x⟩, ms, z⟩ := g
  exact going_mk h0 h1 h2 h h3
theorem GoS.rdin {w : World} {By : Nat → Prop} {lo : Nat} {B : Option Addr} {gs : List GoTy.T} {d : Nat} (h : GoS w By lo B d gs) (hc : gs.length ≤ d ∧ d ≤ maxLen) (hl : gs.length ≤ 1000) (hB : ∀ b, By b → NewB lo w b) : RdIn w (NewB lo w) (.sl GoTy) gs [.slice B gs.length d] := by
  refine rdin_sl.2 ⟨_, _, rfl, hc.1, hc.2, by show gs.length * 80 ≤ _; omega, ?_⟩
  rcases h with h | ⟨G, o, cells, bf, h1, h2, h3, h4, h5⟩
  · exact .inl h
  · refine .inr ⟨G, o, h1, ⟨h3.1, h2.lt, _, _, h2⟩, fun j hj => ?_⟩
    obtain ⟨vd, vm, ⟨k0, k1, k2, k3, k4, k5⟩, ⟨i0, i1, i2⟩, k7, k8⟩ := h4 j hj
    refine ⟨[.int .i64 (nuOf (gs[j]'hj)), .int .u8 ((kiOf (gs[j]'hj)).toNat : Int), .int .i64 (atOf (gs[j]'hj)), .int .i64 (manyOf (gs[j]'hj)), vd, vm], fun q hq => ?_, ?_⟩
    · have hq6 : q < 6 := hq
      show w.cell? ⟨G, o + j * 6 + q, none⟩ = _
      rw [h2.cell]
      have : q = 0 ∨ q = 1 ∨ q = 2 ∨ q = 3 ∨ q = 4 ∨ q = 5 := by omega
      rcases this with rfl | rfl | rfl | rfl | rfl | rfl
      · exact k0
      · exact k1
      · exact k2
      · exact k3
      · exact k4
      · exact k5
    · exact going_mk' i0 i1 i2 (k7.mono hB) k8.rdin
end Go.Proofs.Ytclbihcggjjgaaa
/- Layer 30 (model): one's own twin lies so that it can be written; marks are written. -/
namespace Go.Proofs.Ytclbihcggjjgaaa
open Go Go.RowKit
set_option linter.unusedVariables false

theorem own_view {w : World} {base e size n : Nat} {v : Value} {xs : List Value} (h : w.ownsRow base e size v n xs) (hn : 0 < n) : ∃ g cap cur, v = .slice (some ⟨g, 0, none⟩) n cap ∧ base ≤ g ∧ BoxOf w g cur e ∧ n ≤ cap ∧ cap ≤ maxLen ∧ cur.size = cap * size ∧ ∀ q, q < n * size → cur.toList[q]? = xs[q]? := by
  rcases h.2 with ⟨_, h0⟩ | ⟨g, cap, cur, e, h1, h2, h3, h4, h5, h6⟩
  · omega
  · refine ⟨g, cap, cur, e, h1, h2, h3, h4, h5, fun q hq => ?_⟩
    rw [← h6, List.getElem?_take, if_pos hq]
/-! ### marks -/
def setMks (g : GoTy.T) (ms : List Int) : GoTy.T := (nuOf g, (kiOf g, atOf g, manyOf g, datOf g, ()), ms, ())
end Go.Proofs.Ytclbihcggjjgaaa
/- Layer 30 (model), plainly: what a request's end does to a plain array, and that it stays one. -/
namespace Go.Proofs.Ytclbihcggjjgaaa
open Go Go.RowKit
set_option linter.unusedVariables false

abbrev Ys := List (List (List UInt8))
def dropMk (b many : Nat) (g : GoTy.T) : GoTy.T := if mksOf g = [] then g else setMks g ((mksOf g).set b (max 0 ((mksOf g).getD b 0 - (many : Int))))
def dropY (b many : Nat) (ys : Ys) : Ys := ys.set b ((ys.getD b []).drop many)
def dropG (b many : Nat) (gs : List GoTy.T) : List GoTy.T := gs.map (dropMk b many)
def dropS (b many : Nat) (s : Ys × List GoTy.T) : Ys × List GoTy.T := (dropY b many s.1, dropG b many s.2)
def marksS (ms : List Int) : Nat → Ys × List GoTy.T → Ys × List GoTy.T
  | 0, s => s
  | j + 1, s => dropS j (ms.getD j 0).toNat (marksS ms j s)
def pushY (b : Nat) (v : List UInt8) (ys : Ys) : Ys := ys.set b (ys.getD b [] ++ [v])
def putS (k : Int) (b : Nat) (v : List UInt8) (s : Ys × List GoTy.T) : Ys × List GoTy.T :=
  if k = 3 then dropS b ((s.1.getD b [] ++ [v]).length - 1) (pushY b v s.1, s.2) else (pushY b v s.1, s.2)
def stepS (k : Int) (bs : List UInt8) (a i : Nat) (t : (Ys × List GoTy.T) × List UInt8) : Option ((Ys × List GoTy.T) × List UInt8) :=
  if kWrites k = true then (if 512 < ((putS k (a + i) (blk k bs i) t.1).1.getD (a + i) []).length then none else some (putS k (a + i) (blk k bs i) t.1, t.2))
  else some (t.1, t.2 ++ (t.1.1.getD (a + i) []).getLastD [])
def endS (k : Int) (bs : List UInt8) (a : Nat) : Nat → Ys × List GoTy.T → Option ((Ys × List GoTy.T) × List UInt8)
  | 0, s => some (s, [])
  | i + 1, s => (endS k bs a i s).bind (stepS k bs a i)

/-! ### a request, marks turned -/
theorem setMks_mks (g : GoTy.T) (ms : List Int) : mksOf (setMks g ms) = ms := rfl
theorem setMks_self (g : GoTy.T) : setMks g (mksOf g) = g := by
  obtain ⟨nu, ⟨ki, a, y, bs, u⟩, ms, v⟩ := g
  rfl
theorem dropMk_nu (b many : Nat) (g : GoTy.T) : nuOf (dropMk b many g) = nuOf g := by unfold dropMk; split <;> rfl
theorem dropMk_ki (b many : Nat) (g : GoTy.T) : kiOf (dropMk b many g) = kiOf g := by unfold dropMk; split <;> rfl
theorem dropMk_at (b many : Nat) (g : GoTy.T) : atOf (dropMk b many g) = atOf g := by unfold dropMk; split <;> rfl
theorem dropMk_many (b many : Nat) (g : GoTy.T) : manyOf (dropMk b many g) = manyOf g := by unfold dropMk; split <;> rfl
theorem dropMk_dat (b many : Nat) (g : GoTy.T) : datOf (dropMk b many g) = datOf g := by unfold dropMk; split <;> rfl
theorem dropMk_len (b many : Nat) (g : GoTy.T) : (mksOf (dropMk b many g)).length = (mksOf g).length := by
  unfold dropMk
  split
  · rfl
  · rw [setMks_mks, List.length_set]
theorem dropMk_get (b many : Nat) (g : GoTy.T) (i : Nat) (h : i < (mksOf g).length) (h' : i < (mksOf (dropMk b many g)).length) : (mksOf (dropMk b many g))[i] = if i = b then max 0 ((mksOf g)[i] - (many : Int)) else (mksOf g)[i] := by
  have hne : mksOf g ≠ [] := fun e => by rw [e] at h; simp at h
  have e : mksOf (dropMk b many g) = (mksOf g).set b (max 0 ((mksOf g).getD b 0 - (many : Int))) := by
    unfold dropMk
    rw [if_neg hne, setMks_mks]
  have e2 : (mksOf (dropMk b many g))[i]? = ((mksOf g).set b (max 0 ((mksOf g).getD b 0 - (many : Int))))[i]? := by rw [e]
  rw [List.getElem?_eq_getElem h'] at e2
  have e3 := Option.some.inj (e2.trans (List.getElem?_eq_getElem (by rw [List.length_set]; exact h)))
  rw [e3, List.getElem_set]
  by_cases hb : i = b
  · subst hb
    rw [if_pos rfl, if_pos rfl]
    rw [List.getD_eq_getElem?_getD, List.getElem?_eq_getElem h]
    rfl
  · rw [if_neg (fun e => hb e.symm), if_neg hb]
/-! ### it stays one -/
theorem getD_lt {ys : Ys} {b : Nat} (h : b < ys.length) : ys.getD b [] = ys[b] := by
  rw [List.getD_eq_getElem?_getD, List.getElem?_eq_getElem h]; rfl
theorem PlainOk.turn {x : Cfg} {ys : Ys} {gs : List GoTy.T} (h : PlainOk x ys gs) {b : Nat} (hb : b < ys.length) (many : Nat) (zs : List (List UInt8)) (hz : RowOk zs) (hm : ∀ m : Int, 0 ≤ m → m < ((ys[b]).length : Int) → max 0 (m - (many : Int)) < (zs.length : Int)) : PlainOk x (ys.set b zs) (dropG b many gs) where
  cfg := h.cfg
  len := by rw [List.length_set]; exact h.len
  few := by unfold dropG; rw [List.length_map]; exact h.few
  vals := fun i hi => by
    rw [List.length_set] at hi
    by_cases e : i = b
    · subst e
      rw [List.getElem_set_self]
      exact hz
    · rw [List.getElem_set_ne (fun h => e h.symm)]
      exact h.vals i hi
  goes := fun i hi => by
    unfold dropG at *
    rw [List.length_map] at hi
    have e : (gs.map (dropMk b many))[i] = dropMk b many gs[i] := List.getElem_map _
    obtain ⟨⟨h1, h2, h3⟩, h4⟩ := h.goes i hi
    refine ⟨⟨?_, ?_, ?_⟩, ?_⟩
    · rw [e, dropMk_nu]; exact h1
    · rw [e, dropMk_ki, dropMk_at, dropMk_many, dropMk_dat]; exact h2
    · rw [e, dropMk_ki]
      unfold MarksOk at h3 ⊢
      split at h3
      · rename_i hk
        rw [if_pos hk, dropMk_len, List.length_set]
        refine ⟨h3.1, fun q hq hq' => ?_⟩
        have hq0 : q < (mksOf gs[i]).length := by rw [dropMk_len] at hq; exact hq
        have hq1 : q < ys.length := by rw [List.length_set] at hq'; exact hq'
        have h5 := h3.2 q hq0 hq1
        rw [dropMk_get b many _ q hq0 hq]
        by_cases e2 : q = b
        · subst e2
          rw [if_pos rfl, List.getElem_set_self]
          exact ⟨Int.le_max_left _ _, hm _ h5.1 h5.2⟩
        · rw [if_neg e2, List.getElem_set_ne (fun h => e2 h.symm)]
          exact h5
      · rename_i hk
        rw [if_neg hk, dropMk_len]
        exact h3
    · intro h5 h6
      have h7 : i - 1 < gs.length := by rw [List.length_map] at h5; exact h5
      rw [e, dropMk_nu]
      have e' : (gs.map (dropMk b many))[i - 1] = dropMk b many gs[i - 1] := List.getElem_map _
      rw [e', dropMk_nu]
      exact h4 h7 h6
theorem PlainOk.row {x : Cfg} {ys : Ys} {gs : List GoTy.T} (h : PlainOk x ys gs) {b : Nat} (hb : b < ys.length) : 1 ≤ (ys[b]).length ∧ (ys[b]).length ≤ 512 ∧ ∀ k (hk : k < (ys[b]).length), ((ys[b])[k]).length = 128 := by
  obtain ⟨h1, h2, h3⟩ := h.vals b hb
  exact ⟨h1, h2, fun k hk => h3 k hk⟩
theorem PlainOk.drop {x : Cfg} {ys : Ys} {gs : List GoTy.T} (h : PlainOk x ys gs) {b many : Nat} (hb : b < ys.length) (hm : many < (ys[b]).length) : PlainOk x (dropY b many ys) (dropG b many gs) := by
  obtain ⟨h1, h2, h3⟩ := h.row hb
  unfold dropY
  rw [getD_lt hb]
  refine h.turn hb many _ ⟨by rw [List.length_drop]; omega, by rw [List.length_drop]; omega, fun k hk => ?_⟩ (fun m m0 m1 => ?_)
  · rw [List.getElem_drop]
    exact h3 _ _
  · rw [List.length_drop]
    omega
theorem dropMk_none {b : Nat} {g : GoTy.T} (h : ∀ q (hq : q < (mksOf g).length), 0 ≤ (mksOf g)[q]) : dropMk b 0 g = g := by
  by_cases hn : mksOf g = []
  · unfold dropMk
    rw [if_pos hn]
  · unfold dropMk
    rw [if_neg hn]
    have e : (mksOf g).set b (max 0 ((mksOf g).getD b 0 - ((0 : Nat) : Int))) = mksOf g := by
      apply List.ext_getElem
      · rw [List.length_set]
      · intro i h1 h2
        rw [List.getElem_set]
        by_cases hb : b = i
        · subst hb
          have := h b h2
          rw [if_pos rfl, List.getD_eq_getElem?_getD, List.getElem?_eq_getElem h2]
          show max 0 ((mksOf g)[b] - ((0 : Nat) : Int)) = _
          omega
        · rw [if_neg hb]
    rw [e, setMks_self]
theorem PlainOk.marks {x : Cfg} {ys : Ys} {gs : List GoTy.T} (h : PlainOk x ys gs) {j : Nat} (hj : j < gs.length) : (mksOf gs[j] = [] ∨ (mksOf gs[j]).length = ys.length) ∧ ∀ q (hq : q < (mksOf gs[j]).length), ∃ hq' : q < ys.length, 0 ≤ (mksOf gs[j])[q] ∧ (mksOf gs[j])[q] < ((ys[q]).length : Int) := by
  obtain ⟨⟨_, _, h3⟩, _⟩ := h.goes j hj
  unfold MarksOk at h3
  split at h3
  · exact ⟨.inr h3.1, fun q hq => ⟨by omega, h3.2 q hq (by omega)⟩⟩
  · exact ⟨.inl (List.eq_nil_of_length_eq_zero h3), fun q hq => by omega⟩
theorem PlainOk.none {x : Cfg} {ys : Ys} {gs : List GoTy.T} (h : PlainOk x ys gs) (b : Nat) : dropG b 0 gs = gs := by
  unfold dropG
  apply List.ext_getElem
  · rw [List.length_map]
  · intro i h1 h2
    rw [List.getElem_map]
    refine dropMk_none fun q hq => ?_
    obtain ⟨_, h3, _⟩ := (h.marks h2).2 q hq
    exact h3
theorem PlainOk.push {x : Cfg} {ys : Ys} {gs : List GoTy.T} (h : PlainOk x ys gs) {b : Nat} (hb : b < ys.length) {v : List UInt8} (hv : v.length = 128) (hl : (ys[b]).length < 512) : PlainOk x (pushY b v ys) gs := by
  obtain ⟨h1, h2, h3⟩ := h.row hb
  unfold pushY
  rw [getD_lt hb]
  have := h.turn hb 0 (ys[b] ++ [v]) ⟨by rw [List.length_append]; omega, by rw [List.length_append, List.length_singleton]; omega, fun k hk => ?_⟩ (fun m m0 m1 => by rw [List.length_append, List.length_singleton]; omega)
  · rwa [h.none] at this
  · rw [List.getElem_append]
    split
    · exact h3 _ _
    · simpa using hv
theorem put_fua {b : Nat} {v : List UInt8} {s : Ys × List GoTy.T} (hb : b < s.1.length) : putS 3 b v s = (s.1.set b [v], dropG b (s.1[b]).length s.2) := by
  unfold putS dropS dropY pushY
  rw [if_pos rfl, getD_lt hb]
  have e : (s.1[b] ++ [v]).length - 1 = (s.1[b]).length := by rw [List.length_append, List.length_singleton]; omega
  have e2 : (s.1.set b (s.1[b] ++ [v])).getD b [] = s.1[b] ++ [v] := by
    rw [List.getD_eq_getElem?_getD, List.getElem?_set_self hb]; rfl
  simp only [e, e2]
  rw [List.set_set, List.drop_left]
theorem PlainOk.put {x : Cfg} {ys : Ys} {gs : List GoTy.T} (h : PlainOk x ys gs) {k : Int} {b : Nat} (hb : b < ys.length) {v : List UInt8} (hv : v.length = 128) (hl : ¬ 512 < ((putS k b v (ys, gs)).1.getD b []).length) : PlainOk x (putS k b v (ys, gs)).1 (putS k b v (ys, gs)).2 := by
  by_cases hk : k = 3
  · subst hk
    rw [put_fua hb]
    exact h.turn hb (ys[b]).length [v] ⟨by simp, by simp, fun k hk => by
      have : k = 0 := by simpa using hk
      subst this
      exact hv⟩ (fun m m0 m1 => by show max 0 (m - ((ys[b]).length : Int)) < 1; omega)
  · have e : putS k b v (ys, gs) = (pushY b v ys, gs) := by unfold putS; rw [if_neg hk]
    rw [e] at hl ⊢
    refine h.push hb hv ?_
    have e2 : (pushY b v ys).getD b [] = ys[b] ++ [v] := by
      unfold pushY
      rw [List.getD_eq_getElem?_getD, List.getElem?_set_self hb, getD_lt hb]; rfl
    rw [e2, List.length_append, List.length_singleton] at hl
    omega

/-! ### one request goes -/
theorem PlainOk.less {x : Cfg} {ys : Ys} {gs : List GoTy.T} (h : PlainOk x ys gs) : ∀ (j i : Nat) (hj : j < gs.length) (hi : i < j), nuOf (gs[i]'(by omega)) < nuOf gs[j]
  | 0, i, hj, hi => by omega
  | j + 1, i, hj, hi => by
    have h1 := (h.goes (j + 1) hj).2 (by omega) (by omega)
    simp only [Nat.add_sub_cancel] at h1
    by_cases e : i = j
    · subst e; exact h1
    · exact Int.lt_trans (h.less j i (by omega) (by omega)) h1
theorem PlainOk.one {x : Cfg} {ys : Ys} {gs : List GoTy.T} (h : PlainOk x ys gs) {i j : Nat} (hi : i < gs.length) (hj : j < gs.length) (e : nuOf gs[i] = nuOf gs[j]) : i = j := by
  rcases Nat.lt_trichotomy i j with h1 | h1 | h1
  · have := h.less j i hj h1; omega
  · exact h1
  · have := h.less i j hi h1; omega
/-! ### marks go -/
/-! ### what End answers -/
def endAll (ys : Ys) (gs : List GoTy.T) (j : Nat) : Option ((Ys × List GoTy.T) × List UInt8) :=
  match gs[j]? with
  | none => none
  | some g => endS ((kiOf g).toNat : Int) (datOf g) (atOf g).toNat (manyOf g).toNat (marksS (mksOf g) (mksOf g).length (ys, gs.eraseIdx j))
def EndRel (x : Cfg) (ys : Ys) (gs : List GoTy.T) (number v : Int) (zs : Ys) (hs : List GoTy.T) (rn : Int) (dat : List UInt8) (many : Int) : Prop :=
  (¬ PlainOk x ys gs ∧ v = 8 ∧ zs = [] ∧ hs = [] ∧ rn = 0 ∧ dat = [] ∧ many = 0) ∨
  (PlainOk x ys gs ∧ (∀ j (h : j < gs.length), ¬ nuOf gs[j] = number) ∧ v = 6 ∧ zs = [] ∧ hs = [] ∧ rn = 0 ∧ dat = [] ∧ many = 0) ∨
  (PlainOk x ys gs ∧ (∃ j, ∃ h : j < gs.length, nuOf gs[j] = number ∧ endAll ys gs j = none) ∧ v = 9 ∧ zs = [] ∧ hs = [] ∧ rn = 0 ∧ dat = [] ∧ many = 0) ∨
  (PlainOk x ys gs ∧ (∃ j, ∃ h : j < gs.length, nuOf gs[j] = number ∧ endAll ys gs j = some ((zs, hs), dat) ∧ many = manyOf gs[j]) ∧ v = 0 ∧ rn = number)
theorem EndRel.one {x : Cfg} {ys : Ys} {gs : List GoTy.T} {number v v' : Int} {zs zs' : Ys} {hs hs' : List GoTy.T} {rn rn' : Int} {dat dat' : List UInt8} {many many' : Int} (h : EndRel x ys gs number v zs hs rn dat many) (h' : EndRel x ys gs number v' zs' hs' rn' dat' many') : v = v' ∧ zs = zs' ∧ hs = hs' ∧ rn = rn' ∧ dat = dat' ∧ many = many' := by
  rcases h with ⟨h1, rfl, rfl, rfl, rfl, rfl, rfl⟩ | ⟨h1, h2, rfl, rfl, rfl, rfl, rfl, rfl⟩ | ⟨h1, ⟨j, hj, h2, h3⟩, rfl, rfl, rfl, rfl, rfl, rfl⟩ | ⟨h1, ⟨j, hj, h2, h3, rfl⟩, rfl, rfl⟩ <;>
    rcases h' with ⟨k1, rfl, rfl, rfl, rfl, rfl, rfl⟩ | ⟨k1, k2, rfl, rfl, rfl, rfl, rfl, rfl⟩ | ⟨k1, ⟨i, hi, k2, k3⟩, rfl, rfl, rfl, rfl, rfl, rfl⟩ | ⟨k1, ⟨i, hi, k2, k3, rfl⟩, rfl, rfl⟩ <;>
    first
      | exact ⟨rfl, rfl, rfl, rfl, rfl, rfl⟩
      | exact absurd h1 k1
      | exact absurd k1 h1
      | exact absurd h2 (k2 _ hj)
      | exact absurd k2 (h2 _ hi)
      | (obtain rfl := h1.one hi hj (k2.trans h2.symm)
         rw [h3] at k3
         cases k3 <;> exact ⟨rfl, rfl, rfl, rfl, rfl, rfl⟩)
end Go.Proofs.Ytclbihcggjjgaaa
/- Layer 30 (model): the program: a block's first values go, and marks move along. -/
namespace Go.Proofs.Ytclbihcggjjgaaa
open Go Go.RowKit
set_option linter.unusedSimpArgs false
set_option linter.unusedVariables false

/-- what a call that works on its own leaves -/
structure Kp (lo : Nat) (w w' : World) : Prop where
  below : Below lo w w'
  box : ∀ (b : Nat) (cs : Array Value) (t : TypeId), BoxOf w b cs t → t ≠ 30 → t ≠ 29 → t ≠ 3 → BoxOf w' b cs t
theorem Kp.refl (lo : Nat) (w : World) : Kp lo w w := ⟨Below.refl _ _, fun _ _ _ h _ _ _ => h⟩
theorem Kp.trans {lo : Nat} {a b c : World} (h : Kp lo a b) (k : Kp lo b c) : Kp lo a c := ⟨h.below.trans k.below, fun g cs t h1 h2 h3 h4 => k.box g cs t (h.box g cs t h1 h2 h3 h4) h2 h3 h4⟩
theorem Kp.of_below {lo : Nat} {w w' : World} (h : Below w.heap.size w w') (hl : lo ≤ w.heap.size) : Kp lo w w' := ⟨h.mono hl, fun g cs t h1 _ _ _ => h1.next h⟩
theorem But.setCell {w : World} {g i : Nat} {cs : Array Value} {t : TypeId} (h : BoxOf w g cs t) (v : Value) : But t w (w.setCell ⟨g, i, none⟩ v) := fun b hb => by
  by_cases e : b = g
  · exact .inr ⟨cs, e ▸ h⟩
  · exact .inl (Below.heap_setCell _ _ _ _ e)
theorem But.grown {w w' : World} {g : Nat} {cs : Array Value} {t : TypeId} (h : BoxOf w g cs t) (hg : w.grownBy w' (some g)) : But t w w' := fun b hb => by
  by_cases e : b = g
  · exact .inr ⟨cs, e ▸ h⟩
  · exact .inl (hg.block b hb (fun e' => e (Option.some.inj e')))
/-- what 'drop' leaves -/
def DropIs (By : Nat → Prop) (lo R : Nat) (B : Option Addr) (d : Nat) (ys : Ys) (gs : List GoTy.T) (w w' : World) : Prop :=
  Kp lo w w' ∧ MayS w' By lo R ys ∧ GoS w' By lo B d gs ∧ ∀ b, By b → w'.heap[b]? = w.heap[b]?

theorem DropIs.step {By : Nat → Prop} {lo R : Nat} {B : Option Addr} {d : Nat} {ys ys' : Ys} {gs gs' : List GoTy.T} {w w' w'' : World} (h : DropIs By lo R B d ys gs w w') (h2 : DropIs By lo R B d ys' gs' w' w'') : DropIs By lo R B d ys' gs' w w'' :=
  ⟨h.1.trans h2.1, h2.2.1, h2.2.2.1, fun b hb => (h2.2.2.2 b hb).trans (h.2.2.2 b hb)⟩
theorem DropIs.next {By : Nat → Prop} {lo R : Nat} {B : Option Addr} {d : Nat} {ys : Ys} {gs : List GoTy.T} {w w' w'' : World} (h : DropIs By lo R B d ys gs w w') (hb : Below w'.heap.size w' w'') (hlo : lo ≤ w.heap.size) (hBy : ∀ b, By b → b < w.heap.size) : DropIs By lo R B d ys gs w w'' := by
  have hs := h.1.below.size
  have hBy' : ∀ b, By b → b < w'.heap.size := fun b hb => Nat.lt_of_lt_of_le (hBy b hb) hs
  exact h.step ⟨Kp.of_below hb (by omega), h.2.1.mono hb hBy' (fun _ h => h) (fun _ _ h => h), h.2.2.1.mono hb hBy' (fun _ h => h) (fun _ _ h => h), fun b hb' => hb.block b (hBy' b hb')⟩
theorem DropIs.cast {By : Nat → Prop} {lo R : Nat} {B : Option Addr} {d : Nat} {ys : Ys} {gs gs' : List GoTy.T} {w w' : World} (h : DropIs By lo R B d ys gs w w') (e : gs = gs') : DropIs By lo R B d ys gs' w w' := e ▸ h

end Go.Proofs.Ytclbihcggjjgaaa
/- Layer 30 (model): the program: a value comes behind a row's; the state of a plain array while a request ends. -/
namespace Go.Proofs.Ytclbihcggjjgaaa
open Go Go.RowKit
set_option linter.unusedSimpArgs false
set_option linter.unusedVariables false

/-- a plain array of one's own, on the way -/
def ESt (By0 : Nat → Prop) (lo R : Nat) (B : Option Addr) (d : Nat) (s : Ys × List GoTy.T) (w w' : World) : Prop :=
  ∃ By : Nat → Prop, (∀ b, By0 b → By b) ∧ (∀ b, By b → NewB lo w' b) ∧ Kp lo w w' ∧ MayS w' By lo R s.1 ∧ GoS w' By lo B d s.2 ∧ ∀ b, By0 b → w'.heap[b]? = w.heap[b]?
theorem newB_next {lo : Nat} {w w' : World} {b : Nat} (h : NewB lo w b) (hs : w.heap.size ≤ w'.heap.size) (hb : w'.heap[b]? = w.heap[b]?) : NewB lo w' b := by
  obtain ⟨h1, h2, cs, t, h3⟩ := h
  exact ⟨h1, by omega, cs, t, by rw [hb]; exact h3⟩
theorem ESt.next {By0 : Nat → Prop} {lo R : Nat} {B : Option Addr} {d : Nat} {s : Ys × List GoTy.T} {w w' w'' : World} (h : ESt By0 lo R B d s w w') (hb : Below w'.heap.size w' w'') (hlo : lo ≤ w'.heap.size) : ESt By0 lo R B d s w w'' := by
  obtain ⟨By, h1, h2, h3, h4, h5, h6⟩ := h
  have hlt : ∀ b, By b → b < w'.heap.size := fun b hb => (h2 b hb).2.1
  exact ⟨By, h1, fun b hB => newB_next (h2 b hB) hb.size (hb.block b (hlt b hB)), h3.trans (Kp.of_below hb hlo), h4.mono hb hlt (fun _ h => h) (fun _ _ h => h), h5.mono hb hlt (fun _ h => h) (fun _ _ h => h), fun b hB => (hb.block b (hlt b (h1 b hB))).trans (h6 b hB)⟩
theorem ESt.cast {By0 : Nat → Prop} {lo R : Nat} {B : Option Addr} {d : Nat} {s s' : Ys × List GoTy.T} {w w' : World} (h : ESt By0 lo R B d s w w') (e : s = s') : ESt By0 lo R B d s' w w' := e ▸ h
/-- what 'drop' asks -/
def Fit (s : Ys × List GoTy.T) : Prop := s.2.length ≤ 8 ∧ s.1.length ≤ 1000 ∧ ∀ j (h : j < s.2.length), (mksOf s.2[j] = [] ∨ (mksOf s.2[j]).length = s.1.length) ∧ ∀ q (h' : q < (mksOf s.2[j]).length), 0 ≤ (mksOf s.2[j])[q] ∧ (mksOf s.2[j])[q] ≤ 1000
theorem PlainOk.fits {x : Cfg} {s : Ys × List GoTy.T} (h : PlainOk x s.1 s.2) : Fit s := by
  refine ⟨h.few, h.short, fun j hj => ⟨(h.marks hj).1, fun q hq => ?_⟩⟩
  obtain ⟨hq', h1, h2⟩ := (h.marks hj).2 q hq
  have := (h.row hq').2.1
  omega
end Go.Proofs.Ytclbihcggjjgaaa
/- Layer 30 (model): the program: a request ends, in one's own memory. -/
namespace Go.Proofs.Ytclbihcggjjgaaa
open Go Go.RowKit
set_option linter.unusedSimpArgs false
set_option linter.unusedVariables false

/-- .. with a value that is new -/
def EStV (By0 : Nat → Prop) (lo R : Nat) (B : Option Addr) (d : Nat) (s : Ys × List GoTy.T) (v : List UInt8) (u : Value) (w w' : World) : Prop :=
  ∃ By : Nat → Prop, (∀ b, By0 b → By b) ∧ (∀ b, By b → NewB lo w' b) ∧ Kp lo w w' ∧ MayS w' By lo R s.1 ∧ GoS w' By lo B d s.2 ∧ (∀ b, By0 b → w'.heap[b]? = w.heap[b]?) ∧ RdIn w' By (.sl .byte) v [u]
theorem ESt.val {By0 : Nat → Prop} {lo R : Nat} {B : Option Addr} {d : Nat} {s : Ys × List GoTy.T} {v : List UInt8} {u : Value} {w w' w'' : World} (h : ESt By0 lo R B d s w w') (hb : Below w'.heap.size w' w'') (hlo : lo ≤ w'.heap.size) (hr : RdIn w'' (NewB w'.heap.size w'') (.sl .byte) v [u]) : EStV By0 lo R B d s v u w w'' := by
  obtain ⟨By, h1, h2, h3, h4, h5, h6⟩ := h
  have hlt : ∀ b, By b → b < w'.heap.size := fun b hb => (h2 b hb).2.1
  have hn : ∀ b, b < w'.heap.size → (By b ∨ NewB w'.heap.size w'' b) → By b := fun b hb h => h.elim id (fun h => by have := h.1; omega)
  refine ⟨fun b => By b ∨ NewB w'.heap.size w'' b, fun b hb => .inl (h1 b hb), fun b hB => ?_, h3.trans (Kp.of_below hb hlo), h4.mono hb hlt (fun _ h => .inl h) hn, h5.mono hb hlt (fun _ h => .inl h) hn, fun b hB => (hb.block b (hlt b (h1 b hB))).trans (h6 b hB), hr.mono fun b hb => .inr hb⟩
  rcases hB with hB | hB
  · exact newB_next (h2 b hB) hb.size (hb.block b (hlt b hB))
  · exact ⟨by have := hB.1; omega, hB.2⟩
theorem EStV.next {By0 : Nat → Prop} {lo R : Nat} {B : Option Addr} {d : Nat} {s : Ys × List GoTy.T} {v : List UInt8} {u : Value} {w w' w'' : World} (h : EStV By0 lo R B d s v u w w') (hb : Below w'.heap.size w' w'') (hlo : lo ≤ w'.heap.size) : EStV By0 lo R B d s v u w w'' := by
  obtain ⟨By, h1, h2, h3, h4, h5, h6, h7⟩ := h
  have hlt : ∀ b, By b → b < w'.heap.size := fun b hb => (h2 b hb).2.1
  exact ⟨By, h1, fun b hB => newB_next (h2 b hB) hb.size (hb.block b (hlt b hB)), h3.trans (Kp.of_below hb hlo), h4.mono hb hlt (fun _ h => h) (fun _ _ h => h), h5.mono hb hlt (fun _ h => h) (fun _ _ h => h), fun b hB => (hb.block b (hlt b (h1 b hB))).trans (h6 b hB), h7.below hb⟩
/-- the value comes behind a block's -/
theorem EStV.push {By0 : Nat → Prop} {lo R : Nat} {B : Option Addr} {d : Nat} {s : Ys × List GoTy.T} {v : List UInt8} {u : Value} {w w1 : World} (h : EStV By0 lo R B d s v u w w1) {b : Nat} (hb : b < s.1.length) :
    ∃ g o c, w1.cell? ⟨R, b, none⟩ = some (.slice (some ⟨g, o, none⟩) (s.1[b]).length c) ∧ ∃ By : Nat → Prop, RowS w1 By lo g o c s.1[b] ∧ RdIn w1 By (.sl .byte) v [u] ∧ (∀ b, By b → b < w1.heap.size) ∧
      ∀ w2 g' o' c', RowS w2 By lo g' o' c' (s.1[b] ++ [v]) → (g' = g ∨ w1.heap.size ≤ g') → w1.grownBy w2 (some g) → ∃ cs : Array Value, BoxOf w2 R cs 30 ∧ b < cs.size ∧
        ESt By0 lo R B d (pushY b v s.1, s.2) w (w2.setCell ⟨R, b, none⟩ (.slice (some ⟨g', o', none⟩) ((s.1[b]).length + 1) c')) ∧ Kp lo w1 (w2.setCell ⟨R, b, none⟩ (.slice (some ⟨g', o', none⟩) ((s.1[b]).length + 1) c')) := by
  obtain ⟨By, h1, h2, h3, h4, h5, h6, h7⟩ := h
  obtain ⟨cells, g, o, c, q1, q2, q3, q4, q5⟩ := h4.row hb
  have hlt : ∀ b, By b → b < w1.heap.size := fun b hb => (h2 b hb).2.1
  refine ⟨g, o, c, by rw [q1.cell]; exact q3, By, q4, h7, hlt, fun w2 g' o' c' hrow hg' hgr => ?_⟩
  obtain ⟨cur, k1, k2, k3, k4, k5, k6⟩ := q4
  have hgR : g ≠ R := box_diff k1 q1 (by decide)
  have r1 : BoxOf w2 R cells 30 := q1.grown hgr (fun e => hgR (Option.some.inj e))
  have hbc : b < cells.size := by have := (List.getElem?_eq_some_iff.1 q3).1; rwa [Array.length_toList] at this
  have hf : ∀ k, k < w1.heap.size → k ≠ R → k ≠ g → (w2.setCell ⟨R, b, none⟩ (.slice (some ⟨g', o', none⟩) ((s.1[b]).length + 1) c')).heap[k]? = w1.heap[k]? := fun k hk h1 h2 =>
    (Below.heap_setCell _ _ _ _ h1).trans (hgr.block k hk (fun e => h2 (Option.some.inj e)))
  have hB2 : ∀ k, By k → (w2.setCell ⟨R, b, none⟩ (.slice (some ⟨g', o', none⟩) ((s.1[b]).length + 1) c')).heap[k]? = w1.heap[k]? := fun k hk => hf k (hlt k hk) (fun e => q2.2 (e ▸ hk)) (fun e => k5.2 (e ▸ hk))
  have hs := msize w2 ⟨R, b, none⟩ (.slice (some ⟨g', o', none⟩) ((s.1[b]).length + 1) c')
  have hsz : w1.heap.size ≤ (w2.setCell ⟨R, b, none⟩ (.slice (some ⟨g', o', none⟩) ((s.1[b]).length + 1) c')).heap.size := by rw [hs]; exact hgr.size
  have kp : Kp lo w1 (w2.setCell ⟨R, b, none⟩ (.slice (some ⟨g', o', none⟩) ((s.1[b]).length + 1) c')) := by
    refine ⟨⟨hgr.os, hgr.tape, hgr.output, hsz, fun k hk => ?_⟩, fun k cs t h1 h2 h3 h4 => ?_⟩
    · by_cases hk2 : k < w1.heap.size
      · exact hf k hk2 (fun e => by have := q2.1; omega) (fun e => by have := k5.1; omega)
      · have := q1.lt
        have := q2.1
        omega
    · exact BoxOf.but (BoxOf.but h1 (But.grown k1 hgr) h3) (But.setCell r1 _) h2
  refine ⟨cells, r1, hbc, ⟨By, h1, fun k hk => newB_next (h2 k hk) hsz (hB2 k hk), h3.trans kp, ?_, ?_, fun k hk => (hB2 k (h1 k hk)).trans (h6 k hk)⟩, kp⟩
  · have e1 : pushY b v s.1 = s.1.set b (s.1[b] ++ [v]) := by unfold pushY; rw [getD_lt hb]
    rw [e1]
    refine q5 _ By g' o' c' (s.1[b] ++ [v]) (fun k hk h1 h2 => hf k hk h1 h2) ?_ ?_ hg' (fun k hk => ⟨hlt k hk, hk⟩) (fun k _ h => h)
    · rw [List.length_append, List.length_singleton]
      exact mbox_self r1 b _
    · obtain ⟨cur', d1, d2, d3, d4, d5, d6⟩ := hrow
      have hgR' : g' ≠ R := box_diff d1 r1 (by decide)
      refine RowS.frame ⟨cur', d1, d2, d3, d4, d5, d6⟩ (Below.heap_setCell _ _ _ _ hgR') (fun k hk => Below.heap_setCell _ _ _ _ (fun e => q2.2 (by have e' : k = R := e; exact e' ▸ hk))) (fun _ h => h) d5.2
  · have g1 : GoS w2 By lo B d s.2 := h5.but (t := 29) (by decide) (by decide) (But.grown k1 hgr) (fun k hk => hgr.block k (hlt k hk) (fun e => k5.2 ((Option.some.inj e) ▸ hk))) (fun _ h => h) (fun _ _ h => h)
    exact g1.but (t := 30) (by decide) (by decide) (But.setCell r1 _) (fun k hk => Below.heap_setCell _ _ _ _ (fun e => q2.2 (by have e' : k = R := e; exact e' ▸ hk))) (fun _ h => h) (fun _ _ h => h)
/-- the length of a block's row -/
theorem MayS.cell {w : World} {By : Nat → Prop} {lo R : Nat} {ys : Ys} (h : MayS w By lo R ys) {b : Nat} (hb : b < ys.length) : ∃ g o c, w.cell? ⟨R, b, none⟩ = some (.slice (some ⟨g, o, none⟩) (ys[b]).length c) := by
  obtain ⟨cells, g, o, c, q1, q2, q3, _⟩ := h.row hb
  exact ⟨g, o, c, by rw [q1.cell]; exact q3⟩
/-- a block's value -/
theorem MayS.last {w : World} {By : Nat → Prop} {lo R : Nat} {ys : Ys} (h : MayS w By lo R ys) {b : Nat} (hb : b < ys.length) (h0 : 0 < (ys[b]).length) : ∃ g o c A' c', w.cell? ⟨R, b, none⟩ = some (.slice (some ⟨g, o, none⟩) (ys[b]).length c) ∧ w.cell? ⟨g, o + ((ys[b]).length - 1), none⟩ = some (.slice A' ((ys.getD b []).getLastD []).length c') ∧ RdIn w By (.sl .byte) ((ys.getD b []).getLastD []) [.slice A' ((ys.getD b []).getLastD []).length c'] := by
  obtain ⟨cells, g, o, c, q1, q2, q3, ⟨cur, k1, k2, k3, k4, k5, k6⟩, _⟩ := h.row hb
  obtain ⟨u, e1, e2⟩ := k6 ((ys[b]).length - 1) (by omega)
  have e3 : (ys.getD b []).getLastD [] = (ys[b])[(ys[b]).length - 1] := by
    rw [getD_lt hb, List.getLastD_eq_getLast?, List.getLast?_eq_getElem?, List.getElem?_eq_getElem (by omega)]
    rfl
  obtain ⟨A', c', rfl, _⟩ := e2.bytes
  refine ⟨g, o, c, A', c', by rw [q1.cell]; exact q3, ?_, ?_⟩
  · rw [k1.cell, e1, e3]
  · rw [e3]; exact e2

/-! ### what a read tells -/
end Go.Proofs.Ytclbihcggjjgaaa
/- Layer 30 (model): the program: a request ends. -/
namespace Go.Proofs.Ytclbihcggjjgaaa
open Go Go.RowKit
set_option linter.unusedSimpArgs false
set_option linter.unusedVariables false

/-- what End answers -/
def EndIs (base : Nat) (x : Cfg) (ys : Ys) (gs : List GoTy.T) (number : Int) (e : Ending) (w : World) : Prop :=
  ∃ (v : Int) (zs : Ys) (hs : List GoTy.T) (rn : Int) (dat : List UInt8) (many : Int) (A' : Option Addr) (c' : Nat) (B' : Option Addr) (d' : Nat) (D : Option Addr) (q : Nat), e = .returned (.tuple #[.agg #[.slice A' zs.length c', .slice B' hs.length d'], .agg #[.int .i64 rn, .int .i64 0, .slice D dat.length q, .int .i64 many], .int .i64 v]) ∧
    EndRel x ys gs number v zs hs rn dat many ∧ RdIn w (NewB base w) (.sl (.sl (.sl .byte))) zs [.slice A' zs.length c'] ∧ RdIn w (NewB base w) (.sl GoTy) hs [.slice B' hs.length d'] ∧ RdIn w (NewB base w) (.sl .byte) dat [.slice D dat.length q]
theorem EndIs.err {base : Nat} {x : Cfg} {ys : Ys} {gs : List GoTy.T} {number v : Int} {w : World} (h : EndRel x ys gs number v [] [] 0 [] 0) : EndIs base x ys gs number (.returned (.tuple #[.agg #[.slice none 0 0, .slice none 0 0], .agg #[.int .i64 0, .int .i64 0, .slice none 0 0, .int .i64 0], .int .i64 v])) w :=
  ⟨v, [], [], 0, [], 0, none, 0, none, 0, none, 0, rfl, h, rdin_nil3 _ _, rdin_nilg _ _, rdin_nilb (by unfold maxLen; omega) _⟩
theorem RdIn.rest {w w' : World} {lo base : Nat} {t : Ty} {x : t.T} {cs : List Value} (h : RdIn w (NewB lo w) t x cs) (hs : w'.heap.size = w.heap.size) (hf : ∀ b, lo ≤ b → w'.heap[b]? = w.heap[b]?) (hb : base ≤ lo) : RdIn w' (NewB base w') t x cs :=
  (h.frame fun b hB => hf b hB.1).mono fun b hB => by
    obtain ⟨h1, h2, cs, t, h3⟩ := hB
    exact ⟨Nat.le_trans hb h1, by rw [hs]; exact h2, cs, t, by rw [hf b h1]; exact h3⟩
end Go.Proofs.Ytclbihcggjjgaaa
/- Layer 30 (model): ModelLeaves: what a crash may leave, and leaves. -/
namespace Go.Proofs.Ytclbihcggjjgaaa
open Go Go.RowKit
set_option linter.unusedSimpArgs false
set_option linter.unusedVariables false

theorem RdIn.tt {w : World} {S : Nat → Prop} {t : Ty} {x : t.T} {cs : List Value} (h : RdIn w S t x cs) : RdIn w (fun _ => True) t x cs := h.mono fun _ _ => trivial
theorem cfg_deep {w : World} {S : Nat → Prop} {cs : List Value} {x : (Ty.st (.prod .u32 (.prod .int (.prod .int (.prod .int (.prod .int (.prod .int .unit))))))).T} (h : RdIn w S (Ty.st (.prod .u32 (.prod .int (.prod .int (.prod .int (.prod .int (.prod .int .unit))))))) x cs) : ∃ y : Cfg, Value.agg cs.toArray = y.val := by
  obtain ⟨id, m, c, r, l, h', u⟩ := x
  obtain ⟨c0, d0, rfl, r0, h⟩ := rdin_prod.1 (rdin_st.1 h)
  obtain ⟨c1, d1, rfl, r1, h⟩ := rdin_prod.1 h
  obtain ⟨c2, d2, rfl, r2, h⟩ := rdin_prod.1 h
  obtain ⟨c3, d3, rfl, r3, h⟩ := rdin_prod.1 h
  obtain ⟨c4, d4, rfl, r4, h⟩ := rdin_prod.1 h
  obtain ⟨c5, d5, rfl, r5, h⟩ := rdin_prod.1 h
  obtain rfl := rdin_unit.1 h
  obtain ⟨rfl, _⟩ := rdin_u32.1 r0
  obtain ⟨rfl, _⟩ := rdin_int.1 r1
  obtain ⟨rfl, _⟩ := rdin_int.1 r2
  obtain ⟨rfl, _⟩ := rdin_int.1 r3
  obtain ⟨rfl, _⟩ := rdin_int.1 r4
  obtain ⟨rfl, _⟩ := rdin_int.1 r5
  exact ⟨⟨id, m, c, r, l, h'⟩, rfl⟩

theorem sl_deep {w : World} {S : Nat → Prop} {e : Ty} {xs : List e.T} {v : Value} (h : RdIn w S (.sl e) xs [v]) : ∃ A c, v = .slice A xs.length c := by
  obtain ⟨A, c, e, _⟩ := rdin_sl.1 h
  exact ⟨A, c, (List.cons.inj e).1⟩
end Go.Proofs.Ytclbihcggjjgaaa
/- Layer 30 (model): ModelStays: a crash to the values that there are leaves them. -/
namespace Go.Proofs.Ytclbihcggjjgaaa
open Go Go.RowKit
set_option linter.unusedSimpArgs false
set_option linter.unusedVariables false

theorem own_setcell {w : World} {base e n cap g : Nat} {xs : List Value} (h : w.ownsRow base e 1 (.slice (some ⟨g, 0, none⟩) n cap) n xs) (h0 : 0 < n) (i : Nat) (v : Value) : (w.setCell ⟨g, i, none⟩ v).ownsRow base e 1 (.slice (some ⟨g, 0, none⟩) n cap) n (xs.set i v) := by
  refine ⟨by rw [List.length_set]; exact h.1, ?_⟩
  rcases h.2 with ⟨e, _⟩ | ⟨g', cap', cur, e, h1, h2, h3, h4, h5, h6⟩
  · cases e
  · injection e with e1 _ e2
    injection e1 with e1
    injection e1 with e1
    subst e1 e2
    exact .inr ⟨g, cap, cur.setIfInBounds i v, rfl, h1, mbox_self (show BoxOf w g cur e from h2) i v, h3, h4, by rw [Array.size_setIfInBounds]; exact h5, by rw [Array.toList_setIfInBounds, List.take_set, h6]⟩
theorem rdin_setbyte {w : World} {S : Nat → Prop} {bs : List UInt8} {b o n c : Nat} (h : RdIn w S (.sl .byte) bs [.slice (some ⟨b, o, none⟩) n c]) {i : Nat} (hi : i < bs.length) (y : UInt8) : RdIn (w.setCell ⟨b, o + i, none⟩ (byteV y)) S (.sl .byte) (bs.set i y) [.slice (some ⟨b, o, none⟩) n c] := by
  obtain ⟨A, c', e, h1, h2, h3, h4⟩ := rdin_sl.1 h
  have hl : (bs.set i y).length = bs.length := List.length_set
  injection e with e _
  injection e with e1 e2 e3
  subst e1 e2 e3
  refine rdin_sl.2 ⟨_, _, by show [Value.slice (some ⟨b, o, none⟩) bs.length c] = [Value.slice (some ⟨b, o, none⟩) (bs.set i y).length c]; rw [hl], by show (bs.set i y).length ≤ c; rw [hl]; exact h1, h2, by show (bs.set i y).length * 1 ≤ _; rw [hl]; exact h3, ?_⟩
  rcases h4 with h4 | ⟨b', o', e, hS, h5⟩
  · have h4' : bs = [] := h4
    rw [h4'] at hi; simp at hi
  · injection e with e
    injection e with e1 e2
    subst e1 e2
    refine .inr ⟨b, o, rfl, hS, fun q hq => ?_⟩
    have hq' : q < bs.length := by rw [← hl]; exact hq
    obtain ⟨es, k1, k2⟩ := h5 q hq'
    obtain rfl := rdin_byte.1 k2
    have hc : ∀ j, j < bs.length → ∃ v, w.cell? ⟨b, o + j, none⟩ = some v := fun j hj => by
      obtain ⟨es, k3, k4⟩ := h5 j hj
      obtain rfl := rdin_byte.1 k4
      have := k3 0 (by decide)
      rw [show o + j * Ty.byte.size + 0 = o + j by show o + j * 1 + 0 = o + j; omega] at this
      exact ⟨_, this⟩
    have hg : (bs.set i y)[q]'(by rw [hl]; exact hq') = if i = q then y else bs[q] := List.getElem_set ..
    refine ⟨[byteV ((bs.set i y)[q]'(by rw [hl]; exact hq'))], fun j hj => ?_, rdin_byte.2 rfl⟩
    have hj0 : j = 0 := by have : j < 1 := hj; omega
    subst hj0
    show (w.setCell ⟨b, o + i, none⟩ (byteV y)).cell? ⟨b, o + q * 1 + 0, none⟩ = some (byteV ((bs.set i y)[q]'(by rw [hl]; exact hq')))
    rw [hg, show o + q * 1 + 0 = o + q by omega]
    by_cases e : i = q
    · subst e
      rw [if_pos rfl]
      obtain ⟨v, hv⟩ := hc i hi
      exact World.cell?_setCell_same w _ _ hv
    · rw [if_neg e, World.cell?_setCell_other (h := fun h => e (by injection h with _ h; omega))]
      have := k1 0 (by decide)
      rw [show o + q * Ty.byte.size + 0 = o + q by show o + q * 1 + 0 = o + q; omega] at this
      exact this
theorem byte_next (b : UInt8) : byteV (b + 1) = .int .u8 (IntKind.u8.wrap ((b.toNat : Int) + 1)) := by
  unfold byteV
  congr 1
theorem Vals.row {w w' : World} {S T : Nat → Prop} {base : Nat} {left : List (List UInt8)} {vals : List Value} {g cap : Nat} (h : Vals w S left vals) (hb : Below w.heap.size w w') (ho : w'.ownsRow base 29 1 (.slice (some ⟨g, 0, none⟩) left.length cap) left.length vals) (hS : ∀ b, S b → T b) (hT : T g) (hz : left.length * 24 ≤ 140737488355328) : RdIn w' T (.sl (.sl .byte)) left [.slice (some ⟨g, 0, none⟩) left.length cap] := by
  obtain ⟨_, ho⟩ := ho
  rcases ho with ⟨e, _⟩ | ⟨g', cap', cur, e, _, hh, h5, h6, h7, h8⟩
  · cases e
  · injection e with e1 e2 e3
    injection e1 with e1
    injection e1 with e4
    subst e4
    subst e3
    refine rdin_sl.2 ⟨_, _, rfl, h5, h6, hz, .inr ⟨g, 0, rfl, hT, fun i hi => ?_⟩⟩
    have hi' : i < left.length := hi
    have hv : i < vals.length := by rw [h.1]; exact hi'
    refine ⟨[vals[i]], fun j hj => ?_, ((h.2 i hi' hv).below hb).mono hS⟩
    have hj0 : j = 0 := by have : j < 1 := hj; omega
    subst hj0
    rw [Nat.mul_one] at h8
    have h9 : cur.toList[i]? = some vals[i] := by
      have h10 : (cur.toList.take left.length)[i]? = some vals[i] := by rw [h8]; exact List.getElem?_eq_getElem hv
      rw [List.getElem?_take] at h10
      rw [if_pos hi'] at h10
      exact h10
    show w'.cell? ⟨g, 0 + i * 1 + 0, none⟩ = some vals[i]
    have e0 : 0 + i * 1 + 0 = i := by omega
    rw [e0]
    exact (BoxOf.cell (show BoxOf w' g cur 29 from hh) i).trans h9
set_option maxRecDepth 100000 in
set_option maxHeartbeats 4000000 in
theorem stays_core (S : Nat → Prop) (x : Cfg) (ys : List (List (List UInt8))) (gs : List GoTy.T) (A : Option Addr) (ca : Nat) (B : Option Addr) (cb : Nat) (D : Option Addr) (dc : Nat) (ps : List UInt8) (w : World) (hy : RdIn w S (.sl (.sl (.sl .byte))) ys [.slice A ys.length ca]) (hg : RdIn w S (.sl GoTy) gs [.slice B gs.length cb]) (hd : RdIn w S (.sl .byte) ps [.slice D ps.length dc]) :
    Calls Try.prog 4 #[x.val, .agg #[.slice A ys.length ca, .slice B gs.length cb], .slice D ps.length dc] w fun e w' => e = .returned (.bool true) ∧ Below w.heap.size w w' := by
  have HPC : Hid (∀ w', Below w.heap.size w w' → Calls Try.prog 18 #[x.val, .agg #[.slice A ys.length ca, .slice B gs.length cb]] w' fun e w'' => OkBad (PlainOk x ys gs) e ∧ Below w'.heap.size w' w'') := fun w' bb => spcheck_any S x ys gs A ca B cb w' (hy.below bb) (hg.below bb)
  have HY := Lib.hid hy
  have HG := Lib.hid hg
  have HD := Lib.hid hd
  clear hy hg hd
  obtain ⟨id, m, c, r, l, h⟩ := x
  unfold Cfg.val at *
  dsimp only at *
  have C0 := BoxOf.alloc (BoxOf.new w #[.int .u32 (id : Int), .int .i64 m, .int .i64 c, .int .i64 r, .int .i64 l, .int .i64 h] 24) (.cells #[.slice A ys.length ca, .slice B gs.length cb] 28)
  have P0 := BoxOf.new' (w.alloc (.cells #[.int .u32 (id : Int), .int .i64 m, .int .i64 c, .int .i64 r, .int .i64 l, .int .i64 h] 24)) (w.heap.size + 1) #[.slice A ys.length ca, .slice B gs.length cb] 28 (by simp)
  have t0 := Ext.alloc (Ext.alloc (Below.refl w.heap.size w) (.cells #[.int .u32 (id : Int), .int .i64 m, .int .i64 c, .int .i64 r, .int .i64 l, .int .i64 h] 24)) (.cells #[.slice A ys.length ca, .slice B gs.length cb] 28)
  go_enter Try.func4, Try.ntmps4
  go_upto_region 1 with fail
  generalize (w.alloc (.cells #[.int .u32 (id : Int), .int .i64 m, .int .i64 c, .int .i64 r, .int .i64 l, .int .i64 h] 24)).alloc (.cells #[.slice A ys.length ca, .slice B gs.length cb] 28) = W at *
  go_wp2_with fail
  refine (alive30_any _).mono ?_
  rintro e wa ⟨rfl, ba⟩
  have Ca := C0.next ba
  have Pa := P0.next ba
  have ta := Ext.trans t0 ba
  have ya := Pa.cell
  clear C0 P0 t0 ba
  go_wp2_with fail
  refine (rgreat_any S ys gs A ca B cb wa (HY.out.below ta) (HG.out.below ta)).mono ?_
  rintro e w1 ⟨⟨b, rfl⟩, b1⟩
  have C1 := Ca.next b1
  have P1 := Pa.next b1
  have t1 := Ext.trans ta b1
  have c1 := C1.cell
  have p1 := P1.cell
  clear ya Ca Pa ta b1
  cases b with
  | true =>
    go_wp2
    go_ret
    exact ⟨rfl, t1⟩
  | false =>
    rcases Bool.eq_false_or_eq_true (decide ((2000 : Int) < (ps.length : Int))) with e1 | e1
    · go_wp2
      go_ret
      exact ⟨rfl, t1⟩
    · go_wp2_with fail
      refine (HPC.out _ t1).mono ?_
      rintro e w2 ⟨h2, b2⟩
      have C2 := C1.next b2
      have P2 := P1.next b2
      have t2 := Ext.trans t1 b2
      have c2 := C2.cell
      have p2 := P2.cell
      clear e1 c1 p1 C1 P1 t1 b2
      rcases h2 with ⟨hok, rfl⟩ | ⟨hno, rfl⟩
      · have HOK := Lib.hid hok
        have HPK : Hid (∀ w', Below w.heap.size w w' → Calls Try.prog 19 #[.agg #[.slice A ys.length ca, .slice B gs.length cb], .slice D ps.length dc] w' fun e w'' => PickIs w' S w'.heap.size ys e w'' ∧ Below w'.heap.size w' w'') := fun w' bb => picked_any S ys gs (fun i hi => ⟨(hok.vals i hi).1, (hok.vals i hi).2.1⟩) A ca B cb D dc ps w' (HY.out.below bb) (HD.out.below bb).bytes_bs
        clear hok
        go_wp2_with fail
        refine (HPK.out _ t2).mono ?_
        rintro e w3 ⟨⟨v, left, vals, rfl, hll, hpk, hvl, own3⟩, b3⟩
        have hshort := HOK.out.short
        have h0 : 0 < left.length := by
          have h1 := HOK.out.len
          have h2 := HOK.out.cfg
          have h3 := Cfg.crm h2
          rw [hll]
          have h4 := h2.1
          unfold Cfg.Plain at h4
          dsimp only at h1 h4
          have h5 : 0 < c * r := Int.mul_pos (by omega) (by omega)
          have h6 : 0 < c * r * (m - 1) := Int.mul_pos h5 (by omega)
          omega
        obtain ⟨g, cap, rfl⟩ : ∃ g cap, v = .slice (some ⟨g, 0, none⟩) left.length cap := by
          rcases own3.2 with ⟨_, e⟩ | ⟨g, cap, _, e, _⟩
          · omega
          · exact ⟨g, cap, e⟩
        have HLF := Lib.hid (hvl.row b3 own3 (T := fun _ => True) (fun _ _ => trivial) trivial (by omega))
        have HVL := Lib.hid hvl
        have HPI := Lib.hid (And.intro hll hpk)
        have H0 := Lib.hid h0
        have B23 := Lib.hid b3
        have HWB : Hid (w.heap.size < w2.heap.size) := C2.lt
        have C3 := C2.next b3
        have P3 := P2.next b3
        have t3 := Ext.trans t2 b3
        have c3 := C3.cell
        have p3 := P3.cell
        have HO3 := Lib.hid own3
        clear hshort h0 hvl hll hpk own3 c2 p2 C2 P2 t2 b3
        have HCR : Hid (Calls Try.prog 13 #[.agg #[.int .u32 (id : Int), .int .i64 m, .int .i64 c, .int .i64 r, .int .i64 l, .int .i64 h], .agg #[.slice A ys.length ca, .slice B gs.length cb], .slice (some ⟨g, 0, none⟩) left.length cap] w3 fun e w' => (∃ A' c', e = .returned (.tuple #[.agg #[.slice A' left.length c', .slice none 0 0], .int .i64 0]) ∧ RdIn w' (NewB w3.heap.size w') (.sl (.sl (.sl .byte))) (ones left) [.slice A' left.length c']) ∧ Below w3.heap.size w3 w') := by
          refine Calls.mono (scrash_any (fun _ => True) ⟨id, m, c, r, l, h⟩ ys gs A ca B cb (some ⟨g, 0, none⟩) cap left w3 (RdIn.tt (HY.out.below t3)) (RdIn.tt (HG.out.below t3)) HLF.out) ?_
          rintro e w' ⟨⟨v, A', c', rfl, hr, hv⟩, b⟩
          obtain rfl := crash_pick HOK.out HPI.out.1 HPI.out.2 hr
          have e1 : crashVal 0 left = ones left := if_pos rfl
          rw [e1, ones_len] at hv
          rw [e1, ones_len]
          exact ⟨⟨A', c', rfl, hv⟩, b⟩
        go_wp2_with fail
        refine HCR.out.mono ?_
        rintro e w4 ⟨⟨A4, c4, rfl, r4⟩, b4⟩
        have HL34 : Hid (w3.heap.size ≤ w4.heap.size) := b4.size
        have bX := Ext.alloc (Below.refl w4.heap.size w4) (.cells #[.slice A4 left.length c4, .slice none 0 0] 28)
        have X5 := BoxOf.new w4 #[.slice A4 left.length c4, .slice none 0 0] 28
        have C5 := (C3.next b4).next bX
        have P5 := (P3.next b4).next bX
        have b5 := Ext.trans b4 bX
        have hl45 := bX.size
        have t5 := Ext.trans t3 b5
        have HR4 := Lib.hid (r4.below bX)
        have HB5 := Lib.hid b5
        have hw4 := (C3.next b4).lt
        have hp4 := (P3.next b4).lt
        clear r4 c3 p3 C3 P3 t3 b4 b5 bX
        go_upto_region 6 with fail
        obtain ⟨gx, hgx⟩ : ∃ z : Nat, z = w4.heap.size := ⟨_, rfl⟩
        rw [← hgx] at X5 hw4 hp4 ⊢
        have HGX := Lib.hid hgx
        have HL4 : Hid (w3.heap.size ≤ w4.heap.size) := HL34.out
        clear hgx
        generalize w4.alloc (.cells #[.slice A4 left.length c4, .slice none 0 0] 28) = w5 at *
        have HP1 : Hid (PlainOk ⟨id, m, c, r, l, h⟩ (ones left) []) := ones_plain HOK.out HPI.out.1 (pick_len HOK.out HPI.out.1 HPI.out.2)
        have HCK : Hid (Calls Try.prog 18 #[.agg #[.int .u32 (id : Int), .int .i64 m, .int .i64 c, .int .i64 r, .int .i64 l, .int .i64 h], .agg #[.slice A4 left.length c4, .slice none 0 0]] w5 fun e w' => e = .returned (.int .i64 0) ∧ Below w5.heap.size w5 w') := by
          have h0 := spcheck_any _ ⟨id, m, c, r, l, h⟩ (ones left) [] A4 c4 none 0 w5 (by rw [ones_len]; exact HR4.out) (rdin_nilg _ _)
          rw [ones_len, List.length_nil] at h0
          refine Calls.mono h0 ?_
          rintro e w' ⟨h1 | h1, b⟩
          · exact ⟨h1.2, b⟩
          · exact absurd HP1.out h1.1
        have HLL : Hid (left.length = ys.length) := HPI.out.1
        have hne : ((left.length : Int) != (ys.length : Int)) = false := by rw [HLL.out]; simp
        have HNE := Lib.hid hne
        clear hne
        have c5 := C5.cell
        have p5 := P5.cell
        have x5 := X5.cell
        go_wp2_with fail
        refine HCK.out.mono ?_
        rintro e w6 ⟨rfl, b6⟩
        have C6' := C5.next b6
        have hl56 := b6.size
        have HL46 : Hid (w4.heap.size ≤ w6.heap.size) := by show _ ≤ _; omega
        clear hl45 hl56
        have P6 := P5.next b6
        have X6 := X5.next b6
        have t6 := Ext.trans t5 b6
        have B36 := Lib.hid (Ext.trans HB5.out b6)
        have R6 := Lib.hid (HR4.out.below b6)
        have c6 := C6'.cell
        have p6 := P6.cell
        have x6 := X6.cell
        have hll0 : left.length ≤ maxLen := by
          have h1 := HLL.out
          have h2 := HOK.out.short
          unfold maxLen
          omega
        have HLM := Lib.hid hll0
        clear c5 p5 x5 C5 P5 X5 t5 HCK b6 hll0 HR4 HB5
        have hne := HNE.out
        go_wp2
        clear hne c6 p6 x6
        go_loopw [11] (fun i wr => ∃ (j : Nat), j ≤ left.length ∧ i = .int .i64 j ∧ Below w6.heap.size w6 wr) (fun i _ => left.length - (intOf i).toNat)
        case atStart => exact ⟨0, by omega, rfl, Below.refl _ _⟩
        case round =>
          obtain ⟨j, hj, rfl, b7⟩ := hrel
          by_cases hlt : j < left.length
          · have hr4 : RdIn wr (NewB w3.heap.size w4) (.sl (.sl (.sl .byte))) (ones left) [.slice A4 (ones left).length c4] := by rw [ones_len]; exact R6.out.below b7
            obtain ⟨xb, xo, A5, k5, rfl, m1, m2⟩ := may_at hr4 (k := j) (by rw [ones_len]; exact hlt)
            rw [ones_at (by rw [ones_len]; exact hlt) hlt] at m1 m2
            obtain ⟨b5, o5, A6, k6, rfl, m3, m4⟩ := val_at m2 (k := 0) (by simp)
            obtain ⟨gb, go0, A7, k7, hga, m5, m6⟩ := val_at (HLF.out.below (Ext.trans B36.out b7)) hlt
            injection hga with hga
            injection hga with e1 e2
            subst e1 e2
            simp only [List.getElem_cons_zero] at m3 m4
            have HM4 := Lib.hid m4
            have HM6 := Lib.hid m6
            have q3 : wr.cell? ⟨b5, o5, none⟩ = some (.slice A6 (left[j]).length k6) := m3
            have q5 : wr.cell? ⟨g, j, none⟩ = some (.slice A7 (left[j]).length k7) := by rw [← m5, Nat.zero_add]
            clear m2 m3 m4 m5 m6 hr4
            generalize left[j] = lz at *
            have X7 := X6.next b7
            have hnn : (!lz == lz) = false := by simp
            have HWJ := next_wrap HLM.out hlt
            have HLJ := Lib.hid hlt
            have HB7 := Lib.hid b7
            have q1 : wr.cell? ⟨xb, xo + j, none⟩ = some (.slice (some ⟨b5, o5, none⟩) 1 k5) := m1
            clear m1 hj
            have hjl : j < left.length := hlt
            go_upto_region 11 with fail
            have HS : Hid (∀ w', Below wr.heap.size wr w' → (Below wr.heap.size wr w' ∧ (∀ p, w'.cell? ⟨gx, p, none⟩ = (#[.slice (some ⟨xb, xo, none⟩) left.length c4, .slice none 0 0] : Array Value).toList[p]?) ∧ w'.cell? ⟨xb, xo + j, none⟩ = some (.slice (some ⟨b5, o5, none⟩) 1 k5) ∧ w'.cell? ⟨b5, o5, none⟩ = some (.slice A6 lz.length k6) ∧ w'.cell? ⟨g, j, none⟩ = some (.slice A7 lz.length k7) ∧ Bs w' A6 lz.length lz ∧ Bs w' A7 lz.length lz)) := fun w' b => ⟨b, (X7.next b).cell, (b.cell (block_lt_of_cell q1)).trans q1, (b.cell (block_lt_of_cell q3)).trans q3, (b.cell (block_lt_of_cell q5)).trans q5, (HM4.out.bytes_bs).below b, (HM6.out.bytes_bs).below b⟩
            refine wp_region_held_drew (S := fun w' => Below wr.heap.size wr w' ∧ (∀ p, w'.cell? ⟨gx, p, none⟩ = (#[.slice (some ⟨xb, xo, none⟩) left.length c4, .slice none 0 0] : Array Value).toList[p]?) ∧ w'.cell? ⟨xb, xo + j, none⟩ = some (.slice (some ⟨b5, o5, none⟩) 1 k5) ∧ w'.cell? ⟨b5, o5, none⟩ = some (.slice A6 lz.length k6) ∧ w'.cell? ⟨g, j, none⟩ = some (.slice A7 lz.length k7) ∧ Bs w' A6 lz.length lz ∧ Bs w' A7 lz.length lz) (by kernel_rfl) (HS.out _ (Ext.drew (Below.refl _ _))) (fun hS => ?_)
            refine wpAnyH_take (i := 0) (oi := _) (v := ?_) rfl (by kernel_rfl) (by kernel_rfl) (by kernel_rfl) (fun _ _ _ h => h) (Or.inl ⟨by rfl, ?_⟩) hS ?_
            rotate_left
            · (intro w hSw; (try dsimp only at hSw); go_simp; (try with_reducible rfl))
            rotate_left
            simp only [Act.put, List.getElem_toArray, List.getElem_cons_zero, List.getElem_cons_succ, List.setIfInBounds_toArray, List.set_cons_zero, List.set_cons_succ]
            refine wpAnyH_take (i := 1) (oi := _) (v := ?_) rfl (by kernel_rfl) (by kernel_rfl) (by kernel_rfl) (fun _ _ _ h => h) (Or.inl ⟨by rfl, ?_⟩) hS ?_
            rotate_left
            · (intro w hSw; (try dsimp only at hSw); go_simp; (try with_reducible rfl))
            rotate_left
            simp only [Act.put, List.getElem_toArray, List.getElem_cons_zero, List.getElem_cons_succ, List.setIfInBounds_toArray, List.set_cons_zero, List.set_cons_succ]
            refine wpAnyH_take (i := 2) (oi := _) (v := ?_) rfl (by kernel_rfl) (by kernel_rfl) (by kernel_rfl) (fun _ _ _ h => h) (Or.inl ⟨by rfl, ?_⟩) hS ?_
            rotate_left
            · (intro w hSw; (try dsimp only at hSw); go_simp; (try with_reducible rfl))
            rotate_left
            simp only [Act.put, List.getElem_toArray, List.getElem_cons_zero, List.getElem_cons_succ, List.setIfInBounds_toArray, List.set_cons_zero, List.set_cons_succ]
            refine wpAnyH_take (i := 3) (oi := _) (v := ?_) rfl (by kernel_rfl) (by kernel_rfl) (by kernel_rfl) (fun _ _ _ h => h) (Or.inl ⟨by rfl, ?_⟩) hS ?_
            rotate_left
            · (intro w hSw; (try dsimp only at hSw); go_simp; (try with_reducible rfl))
            rotate_left
            simp only [Act.put, List.getElem_toArray, List.getElem_cons_zero, List.getElem_cons_succ, List.setIfInBounds_toArray, List.set_cons_zero, List.set_cons_succ]
            refine wpAnyH_take (i := 4) (oi := _) (v := ?_) rfl (by kernel_rfl) (by kernel_rfl) (by kernel_rfl) (fun _ _ _ h => h) (Or.inl ⟨by rfl, ?_⟩) hS ?_
            rotate_left
            · (intro w hSw; (try dsimp only at hSw); go_simp; (try with_reducible rfl))
            rotate_left
            simp only [Act.put, List.getElem_toArray, List.getElem_cons_zero, List.getElem_cons_succ, List.setIfInBounds_toArray, List.set_cons_zero, List.set_cons_succ]
            refine wpAnyH_take (i := 5) (oi := _) (v := ?_) rfl (by kernel_rfl) (by kernel_rfl) (by kernel_rfl) (fun _ _ _ h => h) (Or.inl ⟨by rfl, ?_⟩) hS ?_
            rotate_left
            · (intro w hSw; (try dsimp only at hSw); go_simp; (try with_reducible rfl))
            rotate_left
            simp only [Act.put, List.getElem_toArray, List.getElem_cons_zero, List.getElem_cons_succ, List.setIfInBounds_toArray, List.set_cons_zero, List.set_cons_succ]
            refine wpAnyH_take (i := 6) (oi := _) (v := ?_) rfl (by kernel_rfl) (by kernel_rfl) (by kernel_rfl) (fun _ _ _ h => h) (Or.inl ⟨by rfl, ?_⟩) hS ?_
            rotate_left
            · (intro w hSw; (try dsimp only at hSw); go_simp; (try with_reducible rfl))
            rotate_left
            simp only [Act.put, List.getElem_toArray, List.getElem_cons_zero, List.getElem_cons_succ, List.setIfInBounds_toArray, List.set_cons_zero, List.set_cons_succ]
            refine wpAnyH_take (i := 7) (oi := _) (v := ?_) rfl (by kernel_rfl) (by kernel_rfl) (by kernel_rfl) (fun _ _ _ h => h) (Or.inl ⟨by rfl, ?_⟩) hS ?_
            rotate_left
            · (intro w hSw; (try dsimp only at hSw); go_simp; (try with_reducible rfl))
            rotate_left
            simp only [Act.put, List.getElem_toArray, List.getElem_cons_zero, List.getElem_cons_succ, List.setIfInBounds_toArray, List.set_cons_zero, List.set_cons_succ]
            refine wpAnyH_take (i := 8) (oi := _) (v := ?_) rfl (by kernel_rfl) (by kernel_rfl) (by kernel_rfl) (fun _ _ _ h => h) (Or.inl ⟨by rfl, ?_⟩) hS ?_
            rotate_left
            · (intro w hSw; (try dsimp only at hSw); go_simp; (try with_reducible rfl))
            rotate_left
            simp only [Act.put, List.getElem_toArray, List.getElem_cons_zero, List.getElem_cons_succ, List.setIfInBounds_toArray, List.set_cons_zero, List.set_cons_succ]
            refine wpAnyH_take (i := 9) (oi := _) (v := ?_) rfl (by kernel_rfl) (by kernel_rfl) (by kernel_rfl) (fun _ _ _ h => h) (Or.inl ⟨by rfl, ?_⟩) hS ?_
            rotate_left
            · (intro w hSw; (try dsimp only at hSw); go_simp; (try with_reducible rfl))
            rotate_left
            simp only [Act.put, List.getElem_toArray, List.getElem_cons_zero, List.getElem_cons_succ, List.setIfInBounds_toArray, List.set_cons_zero, List.set_cons_succ]
            refine wpAnyH_take (i := 10) (oi := _) (v := ?_) rfl (by kernel_rfl) (by kernel_rfl) (by kernel_rfl) (fun _ _ _ h => h) (Or.inl ⟨by rfl, ?_⟩) hS ?_
            rotate_left
            · (intro w hSw; (try dsimp only at hSw); go_simp; (try with_reducible rfl))
            rotate_left
            simp only [Act.put, List.getElem_toArray, List.getElem_cons_zero, List.getElem_cons_succ, List.setIfInBounds_toArray, List.set_cons_zero, List.set_cons_succ]
            refine wpAnyH_take (i := 11) (oi := _) (v := ?_) rfl (by kernel_rfl) (by kernel_rfl) (by kernel_rfl) (fun _ _ _ h => h) (Or.inl ⟨by rfl, ?_⟩) hS ?_
            rotate_left
            · (intro w hSw; (try dsimp only at hSw); go_simp; (try with_reducible rfl))
            rotate_left
            simp only [Act.put, List.getElem_toArray, List.getElem_cons_zero, List.getElem_cons_succ, List.setIfInBounds_toArray, List.set_cons_zero, List.set_cons_succ]
            refine wpAnyH_take (i := 12) (oi := _) (v := ?_) rfl (by kernel_rfl) (by kernel_rfl) (by kernel_rfl) (fun _ _ _ h => h) (Or.inl ⟨by rfl, ?_⟩) hS ?_
            rotate_left
            · (intro w hSw; (try dsimp only at hSw); go_simp; (try with_reducible rfl))
            rotate_left
            simp only [Act.put, List.getElem_toArray, List.getElem_cons_zero, List.getElem_cons_succ, List.setIfInBounds_toArray, List.set_cons_zero, List.set_cons_succ]
            refine wpAnyH_take (i := 13) (oi := _) (v := ?_) rfl (by kernel_rfl) (by kernel_rfl) (by kernel_rfl) (fun _ _ _ h => h) (Or.inl ⟨by rfl, ?_⟩) hS ?_
            rotate_left
            · (intro w hSw; (try dsimp only at hSw); go_simp; (try with_reducible rfl))
            rotate_left
            simp only [Act.put, List.getElem_toArray, List.getElem_cons_zero, List.getElem_cons_succ, List.setIfInBounds_toArray, List.set_cons_zero, List.set_cons_succ]
            refine wpAnyH_take (i := 14) (oi := _) (v := ?_) rfl (by kernel_rfl) (by kernel_rfl) (by kernel_rfl) (fun _ _ _ h => h) (Or.inl ⟨by rfl, ?_⟩) hS ?_
            rotate_left
            · (intro w hSw; (try dsimp only at hSw); go_simp; (try with_reducible rfl))
            rotate_left
            simp only [Act.put, List.getElem_toArray, List.getElem_cons_zero, List.getElem_cons_succ, List.setIfInBounds_toArray, List.set_cons_zero, List.set_cons_succ]
            refine wpAnyH_take (i := 15) (oi := _) (v := ?_) rfl (by kernel_rfl) (by kernel_rfl) (by kernel_rfl) (fun _ _ _ h => h) (Or.inl ⟨by rfl, ?_⟩) hS ?_
            rotate_left
            · (intro w hSw; have sq := run_string_bs (P := Try.prog) k6 29 9 5 Try.underlying29 Try.underlying5 Try.underlying9 hSw.2.2.2.2.2.1; (try dsimp only at hSw); go_simp; (try with_reducible rfl))
            rotate_left
            try simp only [Act.put, List.getElem_toArray, List.getElem_cons_zero, List.getElem_cons_succ, List.setIfInBounds_toArray, List.set_cons_zero, List.set_cons_succ]
            refine wpAnyH_take (i := 16) (oi := _) (v := ?_) rfl (by kernel_rfl) (by kernel_rfl) (by kernel_rfl) (fun _ _ _ h => h) (Or.inl ⟨by rfl, ?_⟩) hS ?_
            rotate_left
            · (intro w hSw; (try dsimp only at hSw); go_simp; (try with_reducible rfl))
            rotate_left
            simp only [Act.put, List.getElem_toArray, List.getElem_cons_zero, List.getElem_cons_succ, List.setIfInBounds_toArray, List.set_cons_zero, List.set_cons_succ]
            refine wpAnyH_take (i := 17) (oi := _) (v := ?_) rfl (by kernel_rfl) (by kernel_rfl) (by kernel_rfl) (fun _ _ _ h => h) (Or.inl ⟨by rfl, ?_⟩) hS ?_
            rotate_left
            · (intro w hSw; (try dsimp only at hSw); go_simp; (try with_reducible rfl))
            rotate_left
            simp only [Act.put, List.getElem_toArray, List.getElem_cons_zero, List.getElem_cons_succ, List.setIfInBounds_toArray, List.set_cons_zero, List.set_cons_succ]
            refine wpAnyH_take (i := 18) (oi := _) (v := ?_) rfl (by kernel_rfl) (by kernel_rfl) (by kernel_rfl) (fun _ _ _ h => h) (Or.inl ⟨by rfl, ?_⟩) hS ?_
            rotate_left
            · (intro w hSw; (try dsimp only at hSw); go_simp; (try with_reducible rfl))
            rotate_left
            simp only [Act.put, List.getElem_toArray, List.getElem_cons_zero, List.getElem_cons_succ, List.setIfInBounds_toArray, List.set_cons_zero, List.set_cons_succ]
            refine wpAnyH_take (i := 19) (oi := _) (v := ?_) rfl (by kernel_rfl) (by kernel_rfl) (by kernel_rfl) (fun _ _ _ h => h) (Or.inl ⟨by rfl, ?_⟩) hS ?_
            rotate_left
            · (intro w hSw; (try dsimp only at hSw); go_simp; (try with_reducible rfl))
            rotate_left
            simp only [Act.put, List.getElem_toArray, List.getElem_cons_zero, List.getElem_cons_succ, List.setIfInBounds_toArray, List.set_cons_zero, List.set_cons_succ]
            refine wpAnyH_take (i := 20) (oi := _) (v := ?_) rfl (by kernel_rfl) (by kernel_rfl) (by kernel_rfl) (fun _ _ _ h => h) (Or.inl ⟨by rfl, ?_⟩) hS ?_
            rotate_left
            · (intro w hSw; have sq := run_string_bs (P := Try.prog) k7 29 9 5 Try.underlying29 Try.underlying5 Try.underlying9 hSw.2.2.2.2.2.2; (try dsimp only at hSw); go_simp; (try with_reducible rfl))
            rotate_left
            try simp only [Act.put, List.getElem_toArray, List.getElem_cons_zero, List.getElem_cons_succ, List.setIfInBounds_toArray, List.set_cons_zero, List.set_cons_succ]
            refine wpAnyH_take (i := 21) (oi := _) (v := ?_) rfl (by kernel_rfl) (by kernel_rfl) (by kernel_rfl) (fun _ _ _ h => h) (Or.inl ⟨by rfl, ?_⟩) hS ?_
            rotate_left
            · (intro w hSw; (try dsimp only at hSw); go_simp; (try with_reducible rfl))
            rotate_left
            simp only [Act.put, List.getElem_toArray, List.getElem_cons_zero, List.getElem_cons_succ, List.setIfInBounds_toArray, List.set_cons_zero, List.set_cons_succ]
            refine wpAnyH_take (i := 22) (oi := _) (v := ?_) rfl (by kernel_rfl) (by kernel_rfl) (by kernel_rfl) (fun _ _ _ h => h) (Or.inl ⟨by rfl, ?_⟩) hS ?_
            rotate_left
            · (intro w hSw; (try dsimp only at hSw); go_simp; (try with_reducible rfl))
            rotate_left
            simp only [Act.put, List.getElem_toArray, List.getElem_cons_zero, List.getElem_cons_succ, List.setIfInBounds_toArray, List.set_cons_zero, List.set_cons_succ]
            refine wpAnyH_done (by kernel_rfl) ?_ _
            have bH := hS.1
            clear hS HS
            have HB8 := Lib.hid (Ext.trans HB7.out bH)
            clear bH q1 q3 q5 hnn X7 hjl b7
            go_wp2
            go_roundw
            case rel => exact ⟨j + 1, HLJ.out, by first | exact round_same HWJ | go_num, HB8.out⟩
            case measure => first | exact round_less HWJ HLJ.out | (have h := HLJ.out; simp [intOf]; omega)
          · have C7 := C6'.next b7
            have hl67 := b7.size
            have HL4w : Hid (w4.heap.size ≤ wr.heap.size) := by show _ ≤ _; have := HL46.out; omega
            clear hl67
            have X7 := X6.next b7
            have t7 := Ext.trans t6 b7
            have B37 := Lib.hid (Ext.trans B36.out b7)
            have R7 := Lib.hid (R6.out.below b7)
            have HCR2 : Hid (Calls Try.prog 13 #[.agg #[.int .u32 (id : Int), .int .i64 m, .int .i64 c, .int .i64 r, .int .i64 l, .int .i64 h], .agg #[.slice A4 left.length c4, .slice none 0 0], .slice (some ⟨g, 0, none⟩) left.length cap] wr fun e w' => (∃ A' c', e = .returned (.tuple #[.agg #[.slice A' left.length c', .slice none 0 0], .int .i64 0]) ∧ RdIn w' (NewB wr.heap.size w') (.sl (.sl (.sl .byte))) (ones left) [.slice A' left.length c']) ∧ Below wr.heap.size wr w') := by
              have h0 := scrash_any (fun _ => True) ⟨id, m, c, r, l, h⟩ (ones left) [] A4 c4 none 0 (some ⟨g, 0, none⟩) cap left wr (RdIn.tt (by rw [ones_len]; exact R7.out)) (rdin_nilg _ _) (HLF.out.below B37.out)
              rw [ones_len, List.length_nil] at h0
              refine Calls.mono h0 ?_
              rintro e w' ⟨⟨v, A', c', rfl, hr, hv⟩, b⟩
              obtain rfl := crash_again HOK.out HPI.out.1 HPI.out.2 hr
              have e1 : crashVal 0 left = ones left := if_pos rfl
              rw [e1, ones_len] at hv
              rw [e1, ones_len]
              exact ⟨⟨A', c', rfl, hv⟩, b⟩
            have c7 := C7.cell
            have x7 := X7.cell
            clear t6 X6 C6'
            go_wp2_with fail
            refine HCR2.out.mono ?_
            rintro e w8 ⟨⟨A8, c8, rfl, r8⟩, b8⟩
            have bY := Ext.alloc (Below.refl w8.heap.size w8) (.cells #[.slice A8 left.length c8, .slice none 0 0] 28)
            have Y9 := BoxOf.new w8 #[.slice A8 left.length c8, .slice none 0 0] 28
            have b9 := Ext.trans b8 bY
            have C9 := C7.next b9
            have X9 := X7.next b9
            have t9 := Ext.trans t7 b9
            have B39 := Lib.hid (Ext.trans B37.out b9)
            have R9 := Lib.hid (R7.out.below b9)
            have RY9 := Lib.hid (r8.below bY)
            have hl9 := b9.size
            clear c7 x7 C7 X7 t7 b8 b9 r8 HCR2 bY
            go_upto_region 14 with fail
            obtain ⟨gy, hgy⟩ : ∃ z : Nat, z = w8.heap.size := ⟨_, rfl⟩
            rw [← hgy] at Y9 ⊢
            clear hgy
            generalize w8.alloc (.cells #[.slice A8 left.length c8, .slice none 0 0] 28) = w9 at *
            have HSM : Hid (Calls Try.prog 20 #[.agg #[.slice A4 left.length c4, .slice none 0 0], .agg #[.slice A8 left.length c8, .slice none 0 0]] w9 fun e w' => e = .returned (.bool true) ∧ Below w9.heap.size w9 w') := by
              have h0 := ssame_any (fun _ => True) (fun _ => True) (ones left) [] A4 c4 none 0 (ones left) [] A8 c8 none 0 w9 (RdIn.tt (by rw [ones_len]; exact R9.out)) (rdin_nilg _ _) (RdIn.tt (by rw [ones_len]; exact RY9.out)) (rdin_nilg _ _)
              rw [ones_len, List.length_nil] at h0
              refine Calls.mono h0 ?_
              rintro e w' ⟨⟨bt, rfl, hbt⟩, b⟩
              exact ⟨by rw [hbt.2 ⟨rfl, rfl⟩], b⟩
            have x9 := X9.cell
            have y9 := Y9.cell
            go_wp2_with fail
            refine HSM.out.mono ?_
            rintro e w10 ⟨rfl, b10⟩
            have C10 := C9.next b10
            have X10 := X9.next b10
            have t10 := Ext.trans t9 b10
            have B310 := Lib.hid (Ext.trans B39.out b10)
            have R10 := Lib.hid (R9.out.below b10)
            have hl10 : w9.heap.size ≤ w10.heap.size := b10.size
            have HL10 := Lib.hid (And.intro hl9 hl10)
            clear x9 y9 C9 X9 Y9 t9 R9 RY9 b10 hl9 hl10 HSM
            have HL410 : Hid (w4.heap.size ≤ w10.heap.size) := by
              have h1 := HL10.out
              have h2 := HL4w.out
              show _ ≤ _
              omega
            have own10 := own_next HO3.out B310.out
            have HG3 : Hid (g < w3.heap.size) := own_lt HO3.out rfl
            obtain ⟨g', cap', cur, hge, hg1, G10, hg2, hg3, hg4, hg5⟩ := own_view own10 H0.out
            injection hge with hge _ hge2
            injection hge with hge
            injection hge with hge
            subst hge hge2
            have hv0 : 0 < vals.length := by rw [HVL.out.1]; exact H0.out
            have hr0 := HVL.out.2 0 H0.out hv0
            obtain ⟨A0, c0, he0, _⟩ := hr0.bytes
            have h128 : (left[0]'H0.out).length = 128 := pick_len HOK.out HPI.out.1 HPI.out.2 0 H0.out
            have hbw : Below w2.heap.size w2 w10 := Below.trans B23.out (Below.mono B310.out (B23.out.size))
            have hr10 := Lib.hid (hr0.below hbw)
            have HBW := Lib.hid hbw
            have hc0 : w10.cell? ⟨g, 0, none⟩ = some (.slice A0 (left[0]'H0.out).length c0) := by
              rw [G10.cell, hg5 0 (by have := H0.out; omega), List.getElem?_eq_getElem hv0, he0]
            rw [he0] at hr10
            have hc00 := hc0
            have gfree := G10.free
            have HO10 := Lib.hid own10
            have HG10 := Lib.hid G10
            have H128 := Lib.hid h128
            have HGB : Hid (w2.heap.size ≤ g) := hg1
            generalize hl0 : left[0]'H0.out = l0 at *
            have HL0 := Lib.hid hl0
            clear hr0 he0 hbw own10 G10 hg1 hg2 hg3 hg4 hg5 h128 hl0 hv0
            have h0' : 0 < left.length := H0.out
            have hne0 : ((left.length : Int) == 0) = false := by have := H0.out; simp; intro e; rw [e] at this; simp at this
            obtain ⟨iu, hu, hu0, hu1, hu2⟩ := minfo_u8
            go_upto_region 19 with (at_builtin; refine wpList_copyL rfl (.const (.slice none 0 0)) (.tmp 119) 29 rfl 5 iu _ .byte rfl Try.underlying29 hu hu0 hu1 hu2 rfl rfl _ l0 A0 l0.length c0 rfl hr10.out ?_; intro v11 w11 r11 b11; obtain ⟨V11, k11, hv11⟩ := bytesV r11; subst hv11; have f11 := (HG10.out.next b11).free; have z11 := (b11.cell (block_lt_of_cell hc0)).trans hc0; have HR11 := Lib.hid r11; have HB11 := Lib.hid b11; clear r11 b11 hc0 gfree)
            obtain ⟨xs, b8, o8, hA8, hN8⟩ : ∃ (xs : Nat) (b8 o8 : Nat), V11 = some ⟨b8, o8, none⟩ ∧ NewB w10.heap.size w11 b8 := by
              obtain ⟨A', c', e, _, _, _, h⟩ := rdin_sl.1 HR11.out
              injection e with e _
              injection e with e _ _
              rcases h with h | ⟨b, o, h1, h2, _⟩
              · have h' : l0 = [] := h
                have := H128.out
                rw [h'] at this
                cases this
              · exact ⟨0, b, o, e.trans h1, h2⟩
            subst hA8
            have HN8 := Lib.hid hN8
            obtain ⟨x5, hx5⟩ : ∃ x5 : UInt8, l0[5]? = some x5 := ⟨l0[5]'(by rw [H128.out]; decide), List.getElem?_eq_getElem _⟩
            have HX5 := Lib.hid hx5
            have q5 : w11.cell? ⟨b8, o8 + 5, none⟩ = some (.int .u8 (x5.toNat : Int)) := by
              obtain ⟨A', c', e, _, _, _, h⟩ := rdin_sl.1 HR11.out
              injection e with e _
              injection e with e _ _
              rcases h with h | ⟨b, o, h1, h2, h3⟩
              · have h' : l0 = [] := h
                have := H128.out
                rw [h'] at this
                cases this
              · rw [h1] at e
                injection e with e
                injection e with e1 e2
                subst e1 e2
                have hl5 : 5 < l0.length := by rw [H128.out]; decide
                obtain ⟨es, k1, k2⟩ := h3 5 hl5
                obtain rfl := rdin_byte.1 k2
                have := k1 0 (by decide)
                rw [List.getElem?_eq_getElem hl5] at hx5
                have hx6 := Option.some.inj hx5
                rw [← hx6]
                exact this
            have hgn : g < w10.heap.size := block_lt_of_cell hc00
            have hne8 : b8 ≠ g := by have := hN8.1; omega
            have G12 := mbox_self (HG10.out.next HB11.out) 0 (.slice (some ⟨b8, o8, none⟩) l0.length k11)
            have q12 : (w11.setCell ⟨g, 0, none⟩ (.slice (some ⟨b8, o8, none⟩) l0.length k11)).cell? ⟨b8, o8 + 5, none⟩ = some (.int .u8 (x5.toNat : Int)) := by
              rw [World.cell?_setCell_other (h := fun e => hne8 (by injection e with e; exact e.symm))]
              exact q5
            have fz12 : ∀ p, (w11.setCell ⟨g, 0, none⟩ (.slice (some ⟨b8, o8, none⟩) l0.length k11)).frozen? ⟨b8, p, none⟩ = false := fun p => (hN8.2.2.set ⟨g, 0, none⟩ (.slice (some ⟨b8, o8, none⟩) l0.length k11)).free p
            have g12 : (w11.setCell ⟨g, 0, none⟩ (.slice (some ⟨b8, o8, none⟩) l0.length k11)).cell? ⟨g, 0, none⟩ = some (.slice (some ⟨b8, o8, none⟩) l0.length k11) := World.cell?_setCell_same w11 _ _ z11
            have HB12 : Hid (Below g w10 (w11.setCell ⟨g, 0, none⟩ (.slice (some ⟨b8, o8, none⟩) l0.length k11))) := Below.setCell (HB11.out.mono (Nat.le_of_lt hgn)) (Nat.le_refl g) _
            have HX12 : Hid (∀ b : Nat, b < w10.heap.size → b ≠ g → (w11.setCell ⟨g, 0, none⟩ (.slice (some ⟨b8, o8, none⟩) l0.length k11)).heap[b]? = w10.heap[b]?) := fun b hb h1 => (Below.heap_setCell _ _ _ _ h1).trans (HB11.out.block b hb)
            have HO12 := Lib.hid (own_setcell (own_next HO10.out HB11.out) H0.out 0 (.slice (some ⟨b8, o8, none⟩) l0.length k11))
            have HR12 : Hid (RdIn (w11.setCell ⟨g, 0, none⟩ (.slice (some ⟨b8, o8, none⟩) l0.length k11)) (NewB w10.heap.size w11) (.sl .byte) l0 [.slice (some ⟨b8, o8, none⟩) l0.length k11]) := HR11.out.setElse (fun b hb e => by have := hb.1; omega) 0 _
            clear hN8 hx5 q5 G12 f11 z11
            generalize w11.setCell ⟨g, 0, none⟩ (.slice (some ⟨b8, o8, none⟩) l0.length k11) = w12 at *
            have hl5 : (5 : Int) < (l0.length : Int) := by rw [H128.out]; decide
            refine wp_region_held_drew (S := fun w' => w'.cell? ⟨g, 0, none⟩ = some (.slice (some ⟨b8, o8, none⟩) l0.length k11)) (by kernel_rfl) g12 (fun hS => ?_)
            refine wpAnyH_take (i := 0) (oi := _) (v := ?_) rfl (by kernel_rfl) (by kernel_rfl) (by kernel_rfl) (fun _ _ _ h => h) (Or.inl ⟨by rfl, ?_⟩) hS ?_
            rotate_left
            · (intro w hSw; (try dsimp only at hSw); go_simp; (try with_reducible rfl))
            rotate_left
            simp only [Act.put, List.getElem_toArray, List.getElem_cons_zero, List.getElem_cons_succ, List.setIfInBounds_toArray, List.set_cons_zero, List.set_cons_succ]
            refine wpAnyH_take (i := 1) (oi := _) (v := ?_) rfl (by kernel_rfl) (by kernel_rfl) (by kernel_rfl) (fun _ _ _ h => h) (Or.inl ⟨by rfl, ?_⟩) hS ?_
            rotate_left
            · (intro w hSw; (try dsimp only at hSw); go_simp; (try with_reducible rfl))
            rotate_left
            simp only [Act.put, List.getElem_toArray, List.getElem_cons_zero, List.getElem_cons_succ, List.setIfInBounds_toArray, List.set_cons_zero, List.set_cons_succ]
            refine wpAnyH_take (i := 2) (oi := _) (v := ?_) rfl (by kernel_rfl) (by kernel_rfl) (by kernel_rfl) (fun _ _ _ h => h) (Or.inl ⟨by rfl, ?_⟩) hS ?_
            rotate_left
            · (intro w hSw; (try dsimp only at hSw); go_simp; (try with_reducible rfl))
            rotate_left
            simp only [Act.put, List.getElem_toArray, List.getElem_cons_zero, List.getElem_cons_succ, List.setIfInBounds_toArray, List.set_cons_zero, List.set_cons_succ]
            refine wpAnyH_take (i := 3) (oi := _) (v := ?_) rfl (by kernel_rfl) (by kernel_rfl) (by kernel_rfl) (fun _ _ _ h => h) (Or.inl ⟨by rfl, ?_⟩) hS ?_
            rotate_left
            · (intro w hSw; (try dsimp only at hSw); go_simp; (try with_reducible rfl))
            rotate_left
            simp only [Act.put, List.getElem_toArray, List.getElem_cons_zero, List.getElem_cons_succ, List.setIfInBounds_toArray, List.set_cons_zero, List.set_cons_succ]
            refine wpAnyH_take (i := 4) (oi := _) (v := ?_) rfl (by kernel_rfl) (by kernel_rfl) (by kernel_rfl) (fun _ _ _ h => h) (Or.inl ⟨by rfl, ?_⟩) hS ?_
            rotate_left
            · (intro w hSw; (try dsimp only at hSw); go_simp; (try with_reducible rfl))
            rotate_left
            simp only [Act.put, List.getElem_toArray, List.getElem_cons_zero, List.getElem_cons_succ, List.setIfInBounds_toArray, List.set_cons_zero, List.set_cons_succ]
            refine wpAnyH_take (i := 5) (oi := _) (v := ?_) rfl (by kernel_rfl) (by kernel_rfl) (by kernel_rfl) (fun _ _ _ h => h) (Or.inl ⟨by rfl, ?_⟩) hS ?_
            rotate_left
            · (intro w hSw; (try dsimp only at hSw); go_simp; (try with_reducible rfl))
            rotate_left
            simp only [Act.put, List.getElem_toArray, List.getElem_cons_zero, List.getElem_cons_succ, List.setIfInBounds_toArray, List.set_cons_zero, List.set_cons_succ]
            refine wpAnyH_take (i := 6) (oi := _) (v := ?_) rfl (by kernel_rfl) (by kernel_rfl) (by kernel_rfl) (fun _ _ _ h => h) (Or.inl ⟨by rfl, ?_⟩) hS ?_
            rotate_left
            · (intro w hSw; (try dsimp only at hSw); go_simp; (try with_reducible rfl))
            rotate_left
            simp only [Act.put, List.getElem_toArray, List.getElem_cons_zero, List.getElem_cons_succ, List.setIfInBounds_toArray, List.set_cons_zero, List.set_cons_succ]
            have q13 : w12.drew.cell? ⟨b8, o8 + 5, none⟩ = some (.int .u8 (x5.toNat : Int)) := q12
            have fz13 : ∀ p, w12.drew.frozen? ⟨b8, p, none⟩ = false := fz12
            have g13 : w12.drew.cell? ⟨g, 0, none⟩ = some (.slice (some ⟨b8, o8, none⟩) l0.length k11) := g12
            refine wpAnyH_ready (rs := [7]) (by kernel_rfl) (by simp) ?_
            refine AllReadyH.cons rfl (fun K hK => ?_) AllReadyH.nil
            rw [if_pos (by rfl)]
            go_simp
            refine hK.out _ _ g13 (fun hS' => ?_)
            clear hK K hS
            have hS := hS'
            clear hS'
            try simp only [Act.put, List.getElem_toArray, List.getElem_cons_zero, List.getElem_cons_succ, List.setIfInBounds_toArray, List.set_cons_zero, List.set_cons_succ]
            refine wpAnyH_take (i := 8) (oi := _) (v := ?_) rfl (by kernel_rfl) (by kernel_rfl) (by kernel_rfl) (fun _ _ _ h => h) (Or.inl ⟨by rfl, ?_⟩) hS ?_
            rotate_left
            · (intro w hSw; (try dsimp only at hSw); go_simp; (try with_reducible rfl))
            rotate_left
            simp only [Act.put, List.getElem_toArray, List.getElem_cons_zero, List.getElem_cons_succ, List.setIfInBounds_toArray, List.set_cons_zero, List.set_cons_succ]
            refine wpAnyH_take (i := 9) (oi := _) (v := ?_) rfl (by kernel_rfl) (by kernel_rfl) (by kernel_rfl) (fun _ _ _ h => h) (Or.inl ⟨by rfl, ?_⟩) hS ?_
            rotate_left
            · (intro w hSw; (try dsimp only at hSw); go_simp; (try with_reducible rfl))
            rotate_left
            simp only [Act.put, List.getElem_toArray, List.getElem_cons_zero, List.getElem_cons_succ, List.setIfInBounds_toArray, List.set_cons_zero, List.set_cons_succ]
            refine wpAnyH_ready (rs := [10]) (by kernel_rfl) (by simp) ?_
            refine AllReadyH.cons rfl (fun K hK => ?_) AllReadyH.nil
            rw [if_pos (by rfl)]
            go_simp
            have hs14 : (w12.setCell ⟨b8, o8 + 5, none⟩ (byteV (x5 + 1))).drew.heap.size = w12.heap.size := msize _ _ _
            have HR14 : Hid (RdIn (w12.setCell ⟨b8, o8 + 5, none⟩ (byteV (x5 + 1))).drew (NewB w10.heap.size w11) (.sl .byte) (l0.set 5 (x5 + 1)) [.slice (some ⟨b8, o8, none⟩) l0.length k11]) := rdin_setbyte (HR12.out.below (Ext.drew (Below.refl _ _))) (by rw [H128.out]; decide) (x5 + 1)
            have HO14 : Hid ((w12.setCell ⟨b8, o8 + 5, none⟩ (byteV (x5 + 1))).drew.ownsRow w2.heap.size 29 1 (.slice (some ⟨g, 0, none⟩) left.length cap) left.length (vals.set 0 (.slice (some ⟨b8, o8, none⟩) l0.length k11))) := own_frame HO12.out (fun r hr => by
              have hr' : g = r := Option.some.inj hr
              subst hr'
              exact Below.heap_setCell _ _ _ _ (fun e => hne8 e.symm))
            have HB14 : Hid (Below g w10 (w12.setCell ⟨b8, o8 + 5, none⟩ (byteV (x5 + 1))).drew) := Below.setCell (Below.drew HB12.out) (by have := HN8.out.1; show g ≤ b8; omega) _
            have g14 : (w12.setCell ⟨b8, o8 + 5, none⟩ (byteV (x5 + 1))).drew.cell? ⟨g, 0, none⟩ = some (.slice (some ⟨b8, o8, none⟩) l0.length k11) := by
              show (w12.drew.setCell ⟨b8, o8 + 5, none⟩ (byteV (x5 + 1))).cell? ⟨g, 0, none⟩ = _
              rw [World.cell?_setCell_other (h := fun e => hne8 (by injection e))]
              exact g13
            have HX14 : Hid (∀ b : Nat, b < w10.heap.size → b ≠ g → b ≠ b8 → (w12.setCell ⟨b8, o8 + 5, none⟩ (byteV (x5 + 1))).drew.heap[b]? = w10.heap[b]?) := fun b hb h1 h2 => (Below.heap_setCell _ _ _ _ h2).trans ((HX12.out b hb h1))
            rw [byte_next] at HR14 HO14 HB14 HX14 g14 hs14
            refine hK.out _ _ g14 (fun hS' => ?_)
            clear hK K hS
            have hS := hS'
            clear hS'
            try simp only [Act.put, List.getElem_toArray, List.getElem_cons_zero, List.getElem_cons_succ, List.setIfInBounds_toArray, List.set_cons_zero, List.set_cons_succ]
            refine wpAnyH_done (by kernel_rfl) ?_ _
            have HS14 := Lib.hid hs14
            clear hS g14 hs14 q13 fz13 g13 q12 fz12 g12 hl5
            generalize (w12.setCell ⟨b8, o8 + 5, none⟩ (.int .u8 (IntKind.u8.wrap ((x5.toNat : Int) + 1)))).drew = w14 at *
            have B214 : Hid (Below w2.heap.size w2 w14) := Below.trans (Below.trans B23.out (Below.mono B310.out B23.out.size)) (Below.mono HB14.out HGB.out)
            have HT14 : Hid (Below w.heap.size w w14) := Below.trans t10 (Below.mono HB14.out (by have := HWB.out; have := HGB.out; omega))
            have C14 : BoxOf w14 w.heap.size #[.int .u32 (id : Int), .int .i64 m, .int .i64 c, .int .i64 r, .int .i64 l, .int .i64 h] 24 := by
              unfold BoxOf at *
              rw [HB14.out.block _ (by have := HWB.out; have := HGB.out; omega)]
              exact C10
            have X14 : BoxOf w14 gx #[.slice A4 left.length c4, .slice none 0 0] 28 := by
              have hxg : gx ≠ g := by
                have h1 := HGX.out
                have h2 := HG3.out
                have h3 := HL4.out
                omega
              have hxl := X10.lt
              have hx8 : gx ≠ b8 := by have := HN8.out.1; omega
              unfold BoxOf at *
              rw [HX14.out gx hxl hxg hx8]
              exact X10
            have R14 : Hid (RdIn w14 (fun _ => True) (.sl (.sl (.sl .byte))) (ones left) [.slice A4 left.length c4]) := RdIn.tt (R10.out.frame (fun b hb => HX14.out b (by have := hb.2.1; have := HL410.out; omega) (by have := hb.1; have := HG3.out; omega) (by have := hb.2.1; have := HL410.out; have := HN8.out.1; omega)))
            have hol : (left.set 0 (l0.set 5 (x5 + 1))).length = left.length := List.length_set
            have hvl : (vals.set 0 (.slice (some ⟨b8, o8, none⟩) l0.length k11)).length = vals.length := List.length_set
            have hV14 : Vals w14 (fun _ => True) (left.set 0 (l0.set 5 (x5 + 1))) (vals.set 0 (.slice (some ⟨b8, o8, none⟩) l0.length k11)) := by
              refine ⟨by rw [hol, hvl]; exact HVL.out.1, fun i hi hi' => ?_⟩
              by_cases e : i = 0
              · subst e
                rw [List.getElem_set_self, List.getElem_set_self]
                exact HR14.out.tt
              · rw [List.getElem_set_ne (fun h => e h.symm), List.getElem_set_ne (fun h => e h.symm)]
                exact ((HVL.out.2 i (by rw [hol] at hi; exact hi) (by rw [hvl] at hi'; exact hi')).below B214.out).tt
            have hrow14 : RdIn w14 (fun _ => True) (.sl (.sl .byte)) (left.set 0 (l0.set 5 (x5 + 1))) [.slice (some ⟨g, 0, none⟩) (left.set 0 (l0.set 5 (x5 + 1))).length cap] := hV14.row (Below.refl _ _) (by rw [hol]; exact HO14.out) (fun _ _ => trivial) trivial (by rw [hol]; have h1 := HLL.out; have h2 := HOK.out.short; omega)
            have HCR3 : Hid (Calls Try.prog 13 #[.agg #[.int .u32 (id : Int), .int .i64 m, .int .i64 c, .int .i64 r, .int .i64 l, .int .i64 h], .agg #[.slice A4 left.length c4, .slice none 0 0], .slice (some ⟨g, 0, none⟩) left.length cap] w14 fun e w' => (∃ A9 L9 c9, e = .returned (.tuple #[.agg #[.slice A9 L9 c9, .slice none 0 0], .int .i64 8])) ∧ Below w14.heap.size w14 w') := by
              have h0 := scrash_any (fun _ => True) ⟨id, m, c, r, l, h⟩ (ones left) [] A4 c4 none 0 (some ⟨g, 0, none⟩) cap (left.set 0 (l0.set 5 (x5 + 1))) w14 (by rw [ones_len]; exact R14.out) (rdin_nilg _ _) hrow14
              rw [ones_len, List.length_nil, hol] at h0
              refine Calls.mono h0 ?_
              rintro e w' ⟨⟨v, A', c', rfl, hr, hv⟩, b⟩
              obtain rfl : v = 8 := crash_other HOK.out HPI.out.1 HPI.out.2 hol (fun i hi => by
                by_cases e : i = 0
                · subst e
                  rw [List.getElem_set_self, List.length_set]
                  exact H128.out
                · rw [List.getElem_set_ne (fun h => e h.symm)]
                  exact pick_len HOK.out HPI.out.1 HPI.out.2 i (by rw [hol] at hi; exact hi)) H0.out (fun h0 e => by
                rw [List.getElem_set_self, HL0.out] at e
                have h5 := HX5.out
                have e2 : (l0.set 5 (x5 + 1))[5]? = some (x5 + 1) := List.getElem?_set_self (by rw [H128.out]; decide)
                rw [e, h5] at e2
                exact next_byte x5 (Option.some.inj e2).symm) hr
              exact ⟨⟨_, _, _, rfl⟩, b⟩
            have c14 := C14.cell
            have x14 := X14.cell
            clear hol hvl hV14 hrow14 C10 X10 t10
            go_wp2_with fail
            refine HCR3.out.mono ?_
            rintro e w15 ⟨⟨A9, L9, c9, rfl⟩, b15⟩
            have HB15 := Lib.hid (Ext.trans (HT14.out) b15)
            clear c14 x14 C14 X14 b15 HCR3
            go_upto_region 21 with fail
            have HB16 := Lib.hid (Ext.alloc HB15.out (.cells #[.slice A9 L9 c9, .slice none 0 0] 28))
            generalize w15.alloc (.cells #[.slice A9 L9 c9, .slice none 0 0] 28) = w16 at *
            go_wp2
            go_ret
            exact ⟨rfl, HB16.out⟩
      · go_wp2
        go_ret
        exact ⟨rfl, t2⟩
theorem modelstays_walk (w : World) (c0 : List Value) (x0 : (Ty.st (.prod .u32 (.prod .int (.prod .int (.prod .int (.prod .int (.prod .int .unit))))))).T) (h0 : RdIn w (fun b => b < w.heap.size) (Ty.st (.prod .u32 (.prod .int (.prod .int (.prod .int (.prod .int (.prod .int .unit))))))) x0 c0) (c1 : List Value) (x1 : PlTy.T) (h1 : RdIn w (fun b => b < w.heap.size) PlTy x1 c1) (v2 : Value) (x2 : (Ty.sl .byte).T) (h2 : RdIn w (fun b => b < w.heap.size) (.sl .byte) x2 [v2]) :
    Calls Try.prog 4 #[.agg c0.toArray, .agg c1.toArray, v2] w fun e w' => e = .returned (.bool true) ∧ Below w.heap.size w w' := by
  obtain ⟨x, hx⟩ := cfg_deep h0
  rw [hx]
  obtain ⟨ys, gs, vy, vg, rfl, rfl, hy, hg⟩ := plain_view h1
  obtain ⟨A, ca, rfl⟩ := sl_deep hy
  obtain ⟨B, cb, rfl⟩ := sl_deep hg
  obtain ⟨D, dc, rfl⟩ := sl_deep h2
  exact stays_core _ x ys gs A ca B cb D dc x2 w hy hg h2
end Go.Proofs.Ytclbihcggjjgaaa
