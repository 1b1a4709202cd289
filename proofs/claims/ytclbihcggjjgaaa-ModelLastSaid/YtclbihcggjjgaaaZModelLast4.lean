/- What this claim needs of my texts, merged (part 4). -/
import Derived.Test.YtclbihcggjjgaaaZModelLast3
/- Layer 30 (model): one's own twin lies so that it can be written; marks are written. -/
namespace Go.Proofs.Ytclbihcggjjgaaa
open Go Go.RowKit
set_option linter.unusedVariables false

theorem own_view {w : World} {base e size n : Nat} {v : Value} {xs : List Value} (h : w.ownsRow base e size v n xs) (hn : 0 < n) : ∃ g cap cur, v = .slice (some ⟨g, 0, none⟩) n cap ∧ base ≤ g ∧ BoxOf w g cur e ∧ n ≤ cap ∧ cap ≤ maxLen ∧ cur.size = cap * size ∧ ∀ q, q < n * size → cur.toList[q]? = xs[q]? := by
  rcases h.2 with ⟨_, h0⟩ | ⟨g, cap, cur, e, h1, h2, h3, h4, h5, h6⟩
  · omega
  · refine ⟨g, cap, cur, e, h1, h2, h3, h4, h5, fun q hq => ?_⟩
    rw [← h6, List.getElem?_take, if_pos hq]
theorem getElem?_one {l : List (List Value)} (hl : ∀ es ∈ l, es.length = 1) {i : Nat} (hi : i < l.length) {u : Value} (hu : l[i] = [u]) : l.flatten[i]? = some u := by
  have h := flatten_at l hl i 0 (by decide)
  rw [Nat.mul_one, Nat.add_zero, List.getElem?_eq_getElem hi, hu] at h
  exact h

set_option maxHeartbeats 1000000 in
theorem TwinIs.state {w : World} {lo : Nat} {ys : List (List (List UInt8))} {gs : List GoTy.T} {e : Ending} (h : TwinIs lo ys gs e w) (h0 : 0 < ys.length) (hz : ∀ i (hi : i < ys.length), 0 < (ys[i]).length) :
    ∃ (R cR : Nat) (B : Option Addr) (d : Nat) (By : Nat → Prop), e = .returned (.agg #[.slice (some ⟨R, 0, none⟩) ys.length cR, .slice B gs.length d]) ∧ (ys.length ≤ cR ∧ cR ≤ maxLen) ∧ (gs.length ≤ d ∧ d ≤ maxLen) ∧ MayS w By lo R ys ∧ GoS w By lo B d gs ∧ ∀ b, By b → NewB lo w b := by
  obtain ⟨vy, vg, m, rfl, hlm, hmw, HY, HG⟩ := h
  obtain ⟨ess, Sf, y1, y2, y3, y4, y5, y6⟩ := HY
  obtain ⟨R, cR, cells, rfl, hR, hRB, hc1, hc2, hc3, hc4⟩ := own_view y6 h0
  have hes : ∀ es ∈ ess, es.length = 1 := by
    intro es he
    obtain ⟨i, hi, rfl⟩ := List.getElem_of_mem he
    exact (listE _).len (y2 i (by omega) hi)
  have hrow : ∀ i : Nat, ∃ t : Nat × Nat, ∀ hi : i < ys.length, ∃ (cur : Array Value) (Tf : Nat → Nat → Prop), cells.toList[i]? = some (.slice (some ⟨t.1, 0, none⟩) (ys[i]).length t.2) ∧ BoxOf w t.1 cur 29 ∧ (ys[i]).length ≤ t.2 ∧ t.2 ≤ maxLen ∧ t.2 ≤ cur.size ∧ Sf i t.1 ∧
      (∀ k b, Tf k b → Sf i b ∧ b ≠ t.1) ∧ ∀ k (hk : k < (ys[i]).length), ∃ u, cur.toList[k]? = some u ∧ RdIn w (fun b => Tf k b ∧ Live w b) (.sl .byte) (ys[i])[k] [u] := by
    intro i
    by_cases hi : i < ys.length
    · obtain ⟨u, base, he, ⟨es2, Tf, k1, k2, k3, k4, k5, k6⟩, hzz⟩ := y2 i hi (by omega)
      obtain ⟨g, cap, cur, rfl, q1, q2, q3, q4, q5, q6⟩ := own_view k6 (hz i hi)
      have hes2 : ∀ es ∈ es2, es.length = 1 := by
        intro es he
        obtain ⟨i, hi, rfl⟩ := List.getElem_of_mem he
        exact bytesE.len (k2 i (by omega) hi)
      refine ⟨(g, cap), fun _ => ⟨cur, Tf, ?_, q2, q3, q4, by rw [q5]; simp, k5 g rfl, fun k b hb => ⟨(k3 k b hb).1, fun e => (k3 k b hb).2 (by rw [e]; rfl)⟩, fun k hk => ?_⟩⟩
      · have := hc4 i (by omega)
        rw [this]
        exact getElem?_one hes (by omega) he
      · obtain ⟨u, e1, e2⟩ := k2 k hk (by omega)
        refine ⟨u, ?_, e2⟩
        rw [q6 k (by omega)]
        exact getElem?_one hes2 (by omega) e1
    · exact ⟨(0, 0), fun h => absurd h hi⟩
  obtain ⟨rf, hrf⟩ := Classical.axiomOfChoice hrow
  clear hrow
  obtain ⟨gss, Gf, g1, g2, g3, g4, g5, g6⟩ := HG
  have hmk : ∀ j : Nat, ∃ b : Nat, ∀ hj : j < gs.length, ∃ vd vm, (gss[j]'(by omega)) = [.int .i64 (nuOf gs[j]), .int .u8 ((kiOf gs[j]).toNat : Int), .int .i64 (atOf gs[j]), .int .i64 (manyOf gs[j]), vd, vm] ∧ (IsInt (nuOf gs[j]) ∧ IsInt (atOf gs[j]) ∧ IsInt (manyOf gs[j])) ∧ (∀ x ∈ mksOf gs[j], IsInt x) ∧ (mksOf gs[j]).length * 8 ≤ 140737488355328 ∧
      RdIn w (fun b' => (Gf j b' ∧ Live w b') ∧ (mksOf gs[j] = [] ∨ b' ≠ b)) (.sl .byte) (datOf gs[j]) [vd] ∧ ∃ A c, vm = .slice A (mksOf gs[j]).length c ∧ (mksOf gs[j]).length ≤ c ∧ c ≤ maxLen ∧ (mksOf gs[j] = [] ∨ ∃ cur, A = some ⟨b, 0, none⟩ ∧ BoxOf w b cur 3 ∧ Gf j b ∧ ∀ q (h : q < (mksOf gs[j]).length), cur.toList[q]? = some (.int .i64 (mksOf gs[j])[q])) := by
    intro j
    by_cases hj : j < gs.length
    · obtain ⟨nu, ki, at', many, bs, ms, vd, vm, e1, e2, e3, e4, e5, e6, e7⟩ := g2 j hj (by omega)
      have f1 : nuOf gs[j] = nu := by rw [e1]; rfl
      have f2 : kiOf gs[j] = ki := by rw [e1]; rfl
      have f3 : atOf gs[j] = at' := by rw [e1]; rfl
      have f4 : manyOf gs[j] = many := by rw [e1]; rfl
      have f5 : datOf gs[j] = bs := by rw [e1]; rfl
      have f6 : mksOf gs[j] = ms := by rw [e1]; rfl
      rcases e7 with ⟨rfl, A, c, rfl, hc⟩ | ⟨b, cap, cur, rfl, e8, e9, e10, e11, e12, e13⟩
      · refine ⟨0, fun _ => ⟨vd, .slice A 0 c, ?_, ?_, ?_, ?_, ?_, A, c, ?_, ?_, ?_, ?_⟩⟩
        · rw [f1, f2, f3, f4]; exact e2
        · rw [f1, f3, f4]; exact e3
        · rw [f6]; exact e4
        · rw [f6]; exact e5
        · rw [f5]; exact e6.mono fun b hb => ⟨hb.1, .inl f6⟩
        · rw [f6]; rfl
        · rw [f6]; exact Nat.zero_le _
        · exact hc
        · exact .inl f6
      · refine ⟨b, fun _ => ⟨vd, .slice (some ⟨b, 0, none⟩) ms.length cap, ?_, ?_, ?_, ?_, ?_, some ⟨b, 0, none⟩, cap, ?_, ?_, ?_, ?_⟩⟩
        · rw [f1, f2, f3, f4]; exact e2
        · rw [f1, f3, f4]; exact e3
        · rw [f6]; exact e4
        · rw [f6]; exact e5
        · rw [f5, f6]
          exact e6.mono fun b' hb => ⟨hb.1, hb.2.imp id fun h e => h (by rw [e]; rfl)⟩
        · rw [f6]
        · rw [f6]; exact e10
        · exact e11
        · refine .inr ⟨cur, rfl, e9, e8, fun q hq => ?_⟩
          simp only [f6] at hq ⊢
          have h5 : (ms.map (fun x => Value.int .i64 x))[q]? = some (.int .i64 ms[q]) := by simp [hq]
          rw [← e13, List.getElem?_take, if_pos hq] at h5
          exact h5
    · exact ⟨0, fun h => absurd h hj⟩
  obtain ⟨bf, hbf⟩ := Classical.axiomOfChoice hmk
  clear hmk
  obtain ⟨B, d, hvg, hd⟩ : ∃ B d, vg = .slice B gs.length d ∧ gs.length ≤ d ∧ d ≤ maxLen := by
    rcases g6.2 with ⟨rfl, k0⟩ | ⟨g, cap, cur, rfl, _, _, k1, k2, _⟩
    · exact ⟨none, 0, by rw [k0], by omega, by unfold maxLen; omega⟩
    · exact ⟨_, _, rfl, k1, k2⟩
  subst hvg
  have hS : ∀ i b, Sf i b → lo ≤ b ∧ b < m ∧ b ≠ R := fun i b hb => ⟨(y3 i b hb).1.1, (y3 i b hb).1.2, fun e => (y3 i b hb).2 (by rw [e]; rfl)⟩
  have hGs : ∀ j b, Gf j b → m ≤ b ∧ b < w.heap.size ∧ (Value.slice B gs.length d).ownBlock ≠ some b := fun j b hb => ⟨(g3 j b hb).1.1, (g3 j b hb).1.2, (g3 j b hb).2⟩
  have hRm : R < m := (y5 R rfl).2
  refine ⟨R, cR, B, d, fun b => NewB lo w b ∧ b ≠ R ∧ (∀ i, i < ys.length → b ≠ (rf i).1) ∧ (Value.slice B gs.length d).ownBlock ≠ some b ∧ ∀ j (hj : j < gs.length), mksOf gs[j] ≠ [] → b ≠ bf j, rfl, ⟨hc1, hc2⟩, hd, ?_, ?_, fun b hb => hb.1⟩
  · refine ⟨cells, fun i => (rf i).1, fun _ => 0, fun i => (rf i).2, hRB, ⟨hR, fun h => h.2.1 rfl⟩, fun i hi => ?_, fun i j hi hj e => ?_⟩
    · obtain ⟨cur, Tf, t1, t2, t3, t4, t5, t6, t7, t8⟩ := hrf i hi
      refine ⟨t1, cur, t2, t3, t4, by rw [Nat.zero_add]; exact t5, ⟨(hS i _ t6).1, fun h => h.2.2.1 i hi rfl⟩, fun k hk => ?_⟩
      obtain ⟨u, u1, u2⟩ := t8 k hk
      refine ⟨u, by rw [Nat.zero_add]; exact u1, u2.mono fun b hb => ?_⟩
      obtain ⟨hb1, hb2⟩ := t7 k b hb.1
      have hb3 := hS i b hb1
      refine ⟨⟨hb3.1, by omega, hb.2⟩, hb3.2.2, fun i' hi' e => ?_, fun e => ?_, fun j hj hne e => ?_⟩
      · obtain ⟨_, _, _, _, _, _, _, t6', _⟩ := hrf i' hi'
        rw [← e] at t6'
        have := y4 i i' b hb1 t6'
        subst this
        exact hb2 e
      · have := (g5 b e).1; omega
      · obtain ⟨vd, vm, _, _, _, _, _, A, c, _, _, _, hh⟩ := hbf j hj
        rcases hh with hh | ⟨cur', _, _, hh, _⟩
        · exact hne hh
        · have := (hGs j _ hh).1; omega
    · obtain ⟨_, _, _, _, _, _, _, t6, _⟩ := hrf i hi
      obtain ⟨_, _, _, _, _, _, _, t6', _⟩ := hrf j hj
      have e' : (rf i).1 = (rf j).1 := e
      rw [← e'] at t6'
      exact y4 i j _ t6 t6'
  · rcases Nat.eq_zero_or_pos gs.length with hg0 | hg0
    · exact .inl (List.eq_nil_of_length_eq_zero hg0)
    · obtain ⟨G, cap, gcells, e1, e2, e3, e4, e5, e6, e7⟩ := own_view g6 hg0
      injection e1 with e1 _ e1'
      subst e1 e1'
      have hges : ∀ es ∈ gss, es.length = 6 := by
        intro es he
        obtain ⟨i, hi, rfl⟩ := List.getElem_of_mem he
        exact (goE _).len (g2 i (by omega) hi)
      refine .inr ⟨G, 0, gcells, bf, rfl, e3, ⟨by omega, fun h => h.2.2.2.1 rfl, by rw [e6]; omega⟩, fun j hj => ?_, fun i j hi hj hi1 hj1 e => ?_⟩
      · obtain ⟨vd, vm, k1, k2, k3, k4, k5, A, c, k6, k7, k8, k9⟩ := hbf j hj
        have hcell : ∀ q, q < 6 → gcells.toList[0 + j * 6 + q]? = (gss[j]'(by omega))[q]? := by
          intro q hq
          have h1 := flatten_at gss hges j q hq
          rw [List.getElem?_eq_getElem (show j < gss.length by omega)] at h1
          rw [Nat.zero_add, e7 _ (by omega), h1]
          rfl
        refine ⟨vd, vm, ⟨?_, ?_, ?_, ?_, ?_, ?_⟩, k2, k5.mono fun b hb => ?_, k3, A, c, k6, k7, k8, k4, ?_⟩
        · show gcells.toList[0 + j * 6 + 0]? = _
          rw [hcell 0 (by decide), k1]; rfl
        · show gcells.toList[0 + j * 6 + 1]? = _
          rw [hcell 1 (by decide), k1]; rfl
        · show gcells.toList[0 + j * 6 + 2]? = _
          rw [hcell 2 (by decide), k1]; rfl
        · show gcells.toList[0 + j * 6 + 3]? = _
          rw [hcell 3 (by decide), k1]; rfl
        · show gcells.toList[0 + j * 6 + 4]? = _
          rw [hcell 4 (by decide), k1]; rfl
        · show gcells.toList[0 + j * 6 + 5]? = _
          rw [hcell 5 (by decide), k1]; rfl
        · have hb3 := hGs j b hb.1.1
          refine ⟨⟨by omega, hb3.2.1, hb.1.2⟩, by omega, fun i' hi' e => ?_, hb3.2.2, fun j' hj' hne e => ?_⟩
          · obtain ⟨_, _, _, _, _, _, _, t6', _⟩ := hrf i' hi'
            have := (hS i' _ t6').2.1; omega
          · obtain ⟨_, _, _, _, _, _, _, A', c', _, _, _, hh⟩ := hbf j' hj'
            rcases hh with hh | ⟨cur', _, _, hh, _⟩
            · exact hne hh
            · rw [← e] at hh
              have := g4 j j' b hb.1.1 hh
              subst this
              rcases hb.2 with h | h
              · exact hne h
              · exact h e
        · rcases k9 with k9 | ⟨cur, m1, m2, m3, m4⟩
          · exact .inl k9
          · have hne : mksOf gs[j] = [] ∨ mksOf gs[j] ≠ [] := Classical.em _
            rcases hne with hne | hne
            · exact .inl hne
            · exact .inr ⟨0, cur, m1, m2, ⟨by have := (hGs j _ m3).1; omega, fun h => h.2.2.2.2 j hj hne rfl⟩, fun q hq => by rw [Nat.zero_add]; exact m4 q hq⟩
      · obtain ⟨_, _, _, _, _, _, _, A, c, _, _, _, hh⟩ := hbf i hi
        obtain ⟨_, _, _, _, _, _, _, A', c', _, _, _, hh'⟩ := hbf j hj
        rcases hh with hh | ⟨cur, _, _, hh, _⟩
        · exact absurd hh hi1
        · rcases hh' with hh' | ⟨cur', _, _, hh', _⟩
          · exact absurd hh' hj1
          · rw [← e] at hh'
            exact g4 i j _ hh hh'

/-! ### marks -/
def setMks (g : GoTy.T) (ms : List Int) : GoTy.T := (nuOf g, (kiOf g, atOf g, manyOf g, datOf g, ()), ms, ())
theorem GoS.mark {w : World} {By : Nat → Prop} {lo : Nat} {B : Option Addr} {d : Nat} {gs : List GoTy.T} (h : GoS w By lo B d gs) {j : Nat} (hj : j < gs.length) :
    ∃ (G o : Nat) (cells : Array Value) (Ab : Option Addr) (cb : Nat) (Am : Option Addr) (cm : Nat), B = some ⟨G, o, none⟩ ∧ BoxOf w G cells 64 ∧
      (w.cell? ⟨G, o + j * 6, none⟩ = some (.int .i64 (nuOf gs[j])) ∧ w.cell? ⟨G, o + j * 6 + 1, none⟩ = some (.int .u8 ((kiOf gs[j]).toNat : Int)) ∧ w.cell? ⟨G, o + j * 6 + 2, none⟩ = some (.int .i64 (atOf gs[j])) ∧ w.cell? ⟨G, o + j * 6 + 3, none⟩ = some (.int .i64 (manyOf gs[j])) ∧ w.cell? ⟨G, o + j * 6 + 4, none⟩ = some (.slice Ab (datOf gs[j]).length cb) ∧ w.cell? ⟨G, o + j * 6 + 5, none⟩ = some (.slice Am (mksOf gs[j]).length cm)) ∧
      RdIn w By (.sl .byte) (datOf gs[j]) [.slice Ab (datOf gs[j]).length cb] ∧ (mksOf gs[j]).length ≤ maxLen ∧ (∀ x ∈ mksOf gs[j], IsInt x) ∧ (IsInt (nuOf gs[j]) ∧ IsInt (atOf gs[j]) ∧ IsInt (manyOf gs[j])) ∧
      (0 < (mksOf gs[j]).length → ∃ (b oo : Nat) (cur : Array Value), Am = some ⟨b, oo, none⟩ ∧ BoxOf w b cur 3 ∧ (lo ≤ b ∧ ¬ By b) ∧ (∀ q (hq : q < (mksOf gs[j]).length), w.cell? ⟨b, oo + q, none⟩ = some (.int .i64 (mksOf gs[j])[q])) ∧
        ∀ (w' : World) (k : Nat) (x : Int), Below w.heap.size w w' → (∀ b, By b → b < w.heap.size) → k < (mksOf gs[j]).length → IsInt x → GoS (w'.setCell ⟨b, oo + k, none⟩ (.int .i64 x)) By lo B d (gs.set j (setMks gs[j] ((mksOf gs[j]).set k x)))) := by
  rcases h with h | ⟨G, o, cells, bf, h1, h2, h3, h4, h5⟩
  · rw [h] at hj; simp at hj
  · have h4j := h4 j hj
    obtain ⟨vd, vm, ⟨k0, k1, k2, k3, k4, k5⟩, k6, k7, m0, Am, cm, rfl, m2, m3, m4, m5⟩ := h4j
    obtain ⟨Ab, cb, rfl, _⟩ := k7.bytes
    refine ⟨G, o, cells, Ab, cb, Am, cm, h1, h2, ⟨by rw [h2.cell]; exact k0, by rw [h2.cell]; exact k1, by rw [h2.cell]; exact k2, by rw [h2.cell]; exact k3, by rw [h2.cell]; exact k4, by rw [h2.cell]; exact k5⟩, k7, by omega, m0, k6, fun hp => ?_⟩
    have hne : mksOf gs[j] ≠ [] := fun e => by rw [e] at hp; simp at hp
    rcases m5 with m5 | ⟨oo, cur, m6, m7, m8, m9⟩
    · exact absurd m5 hne
    · refine ⟨bf j, oo, cur, m6, m7, m8, fun q hq => by rw [m7.cell]; exact m9 q hq, fun w' k x hbw hBy hk hx => .inr ⟨G, o, cells, bf, h1, ?_, h3, fun i hi => ?_, fun i i' hi hi' e1 e2 e => ?_⟩⟩
      · exact mbox_else (h2.next hbw) (box_diff h2 m7 (by decide)) _ _
      · rw [List.length_set] at hi
        have hB : ∀ b, By b → (w'.setCell ⟨bf j, oo + k, none⟩ (.int .i64 x)).heap[b]? = w.heap[b]? := fun b hb => (Below.heap_setCell _ _ _ _ (fun e => m8.2 (by have e' : b = bf j := e; rw [← e']; exact hb))).trans (hbw.block b (hBy b hb))
        by_cases e : i = j
        · subst e
          rw [List.getElem_set_self]
          refine ⟨_, _, ⟨k0, k1, k2, k3, k4, k5⟩, k6, k7.frame hB, ?_⟩
          have hml : ((mksOf gs[i]).set k x).length = (mksOf gs[i]).length := List.length_set
          refine ⟨fun y hy => ?_, Am, cm, by show Value.slice Am (mksOf gs[i]).length cm = .slice Am ((mksOf gs[i]).set k x).length cm; rw [hml], by show ((mksOf gs[i]).set k x).length ≤ cm; rw [hml]; exact m2, m3, by show ((mksOf gs[i]).set k x).length * 8 ≤ _; rw [hml]; exact m4, .inr ⟨oo, _, m6, mbox_self (m7.next hbw) (oo + k) (.int .i64 x), m8, fun q hq => ?_⟩⟩
          · have hy' : y ∈ (mksOf gs[i]).set k x := hy
            rcases List.mem_or_eq_of_mem_set hy' with h | h
            · exact m0 y h
            · rw [h]; exact hx
          · have hq' : q < (mksOf gs[i]).length := by rw [← hml]; exact hq
            show (cur.setIfInBounds (oo + k) (.int .i64 x)).toList[oo + q]? = some (.int .i64 (((mksOf gs[i]).set k x)[q]'(by rw [hml]; exact hq')))
            have hlq := (List.getElem?_eq_some_iff.1 (m9 k hk)).1
            rw [Array.toList_setIfInBounds]
            by_cases hqk : q = k
            · subst hqk
              rw [List.getElem?_set_self hlq, List.getElem_set_self]
            · rw [List.getElem?_set_ne (by omega), List.getElem_set_ne (fun e => hqk e.symm)]
              exact m9 q hq'
        · rw [List.getElem_set_ne (fun h => e h.symm)]
          refine (h4 i hi).frame (fun _ _ => rfl) (fun hne' => (Below.heap_setCell _ _ _ _ (fun e' => e ?_)).trans (hbw.block _ ?_)) hB (fun _ h => h) (fun _ _ h => h)
          · exact h5 i j hi hj hne' hne e'
          · obtain ⟨_, _, _, _, _, _, _, _, _, _, _, _, hh⟩ := h4 i hi
            rcases hh with hh | ⟨_, _, _, hh, _⟩
            · exact absurd hh hne'
            · exact hh.lt
      · rw [List.length_set] at hi hi'
        have hz : ∀ i (hi : i < (gs.set j (setMks gs[j] ((mksOf gs[j]).set k x))).length), mksOf ((gs.set j (setMks gs[j] ((mksOf gs[j]).set k x)))[i]) ≠ [] → ∀ hi2 : i < gs.length, mksOf gs[i] ≠ [] := by
          intro i hi hh hi2
          by_cases e : i = j
          · subst e; exact hne
          · rwa [List.getElem_set_ne (fun h => e h.symm)] at hh
        exact h5 i i' hi hi' (hz i _ e1 hi) (hz i' _ e2 hi') e
end Go.Proofs.Ytclbihcggjjgaaa
/- Layer 30 (model), plainly: what a request's end does to a plain array, and that it stays one. -/
namespace Go.Proofs.Ytclbihcggjjgaaa
open Go Go.RowKit
set_option linter.unusedVariables false

abbrev Ys := List (List (List UInt8))
def dropMk (b many : Nat) (g : GoTy.T) : GoTy.T := if mksOf g = [] then g else setMks g ((mksOf g).set b (max 0 ((mksOf g).getD b 0 - (many : Int))))
def dropY (b many : Nat) (ys : Ys) : Ys := ys.set b ((ys.getD b []).drop many)
def dropG (b many : Nat) (gs : List GoTy.T) : List GoTy.T := gs.map (dropMk b many)
def dropS (b many : Nat) (s : Ys × List GoTy.T) : Ys × List GoTy.T := (dropY b many s.1, dropG b many s.2)
def marksS (ms : List Int) : Nat → Ys × List GoTy.T → Ys × List GoTy.T
  | 0, s => s
  | j + 1, s => dropS j (ms.getD j 0).toNat (marksS ms j s)
def pushY (b : Nat) (v : List UInt8) (ys : Ys) : Ys := ys.set b (ys.getD b [] ++ [v])
def putS (k : Int) (b : Nat) (v : List UInt8) (s : Ys × List GoTy.T) : Ys × List GoTy.T :=
  if k = 3 then dropS b ((s.1.getD b [] ++ [v]).length - 1) (pushY b v s.1, s.2) else (pushY b v s.1, s.2)
def stepS (k : Int) (bs : List UInt8) (a i : Nat) (t : (Ys × List GoTy.T) × List UInt8) : Option ((Ys × List GoTy.T) × List UInt8) :=
  if kWrites k = true then (if 512 < ((putS k (a + i) (blk k bs i) t.1).1.getD (a + i) []).length then none else some (putS k (a + i) (blk k bs i) t.1, t.2))
  else some (t.1, t.2 ++ (t.1.1.getD (a + i) []).getLastD [])
def endS (k : Int) (bs : List UInt8) (a : Nat) : Nat → Ys × List GoTy.T → Option ((Ys × List GoTy.T) × List UInt8)
  | 0, s => some (s, [])
  | i + 1, s => (endS k bs a i s).bind (stepS k bs a i)

/-! ### a request, marks turned -/
theorem setMks_mks (g : GoTy.T) (ms : List Int) : mksOf (setMks g ms) = ms := rfl
theorem setMks_self (g : GoTy.T) : setMks g (mksOf g) = g := by
  obtain ⟨nu, ⟨ki, a, y, bs, u⟩, ms, v⟩ := g
  rfl
theorem dropMk_nu (b many : Nat) (g : GoTy.T) : nuOf (dropMk b many g) = nuOf g := by unfold dropMk; split <;> rfl
theorem dropMk_ki (b many : Nat) (g : GoTy.T) : kiOf (dropMk b many g) = kiOf g := by unfold dropMk; split <;> rfl
theorem dropMk_at (b many : Nat) (g : GoTy.T) : atOf (dropMk b many g) = atOf g := by unfold dropMk; split <;> rfl
theorem dropMk_many (b many : Nat) (g : GoTy.T) : manyOf (dropMk b many g) = manyOf g := by unfold dropMk; split <;> rfl
theorem dropMk_dat (b many : Nat) (g : GoTy.T) : datOf (dropMk b many g) = datOf g := by unfold dropMk; split <;> rfl
theorem dropMk_len (b many : Nat) (g : GoTy.T) : (mksOf (dropMk b many g)).length = (mksOf g).length := by
  unfold dropMk
  split
  · rfl
  · rw [setMks_mks, List.length_set]
theorem dropMk_get (b many : Nat) (g : GoTy.T) (i : Nat) (h : i < (mksOf g).length) (h' : i < (mksOf (dropMk b many g)).length) : (mksOf (dropMk b many g))[i] = if i = b then max 0 ((mksOf g)[i] - (many : Int)) else (mksOf g)[i] := by
  have hne : mksOf g ≠ [] := fun e => by rw [e] at h; simp at h
  have e : mksOf (dropMk b many g) = (mksOf g).set b (max 0 ((mksOf g).getD b 0 - (many : Int))) := by
    unfold dropMk
    rw [if_neg hne, setMks_mks]
  have e2 : (mksOf (dropMk b many g))[i]? = ((mksOf g).set b (max 0 ((mksOf g).getD b 0 - (many : Int))))[i]? := by rw [e]
  rw [List.getElem?_eq_getElem h'] at e2
  have e3 := Option.some.inj (e2.trans (List.getElem?_eq_getElem (by rw [List.length_set]; exact h)))
  rw [e3, List.getElem_set]
  by_cases hb : i = b
  · subst hb
    rw [if_pos rfl, if_pos rfl]
    rw [List.getD_eq_getElem?_getD, List.getElem?_eq_getElem h]
    rfl
  · rw [if_neg (fun e => hb e.symm), if_neg hb]
theorem dropMk_hit (b many : Nat) (n : Int) (ds : List UInt8) (g : GoTy.T) : hitB n ds (dropMk b many g) = hitB n ds g := by
  unfold hitB
  rw [dropMk_at, dropMk_many, dropMk_ki, dropMk_dat]

/-! ### it stays one -/
theorem getD_lt {ys : Ys} {b : Nat} (h : b < ys.length) : ys.getD b [] = ys[b] := by
  rw [List.getD_eq_getElem?_getD, List.getElem?_eq_getElem h]; rfl
theorem PlainOk.turn {x : Cfg} {ys : Ys} {gs : List GoTy.T} (h : PlainOk x ys gs) {b : Nat} (hb : b < ys.length) (many : Nat) (zs : List (List UInt8)) (hz : RowOk zs) (hm : ∀ m : Int, 0 ≤ m → m < ((ys[b]).length : Int) → max 0 (m - (many : Int)) < (zs.length : Int)) : PlainOk x (ys.set b zs) (dropG b many gs) where
  cfg := h.cfg
  len := by rw [List.length_set]; exact h.len
  few := by unfold dropG; rw [List.length_map]; exact h.few
  vals := fun i hi => by
    rw [List.length_set] at hi
    by_cases e : i = b
    · subst e
      rw [List.getElem_set_self]
      exact hz
    · rw [List.getElem_set_ne (fun h => e h.symm)]
      exact h.vals i hi
  goes := fun i hi => by
    unfold dropG at *
    rw [List.length_map] at hi
    have e : (gs.map (dropMk b many))[i] = dropMk b many gs[i] := List.getElem_map _
    obtain ⟨⟨h1, h2, h3⟩, h4⟩ := h.goes i hi
    refine ⟨⟨?_, ?_, ?_⟩, ?_⟩
    · rw [e, dropMk_nu]; exact h1
    · rw [e, dropMk_ki, dropMk_at, dropMk_many, dropMk_dat]; exact h2
    · rw [e, dropMk_ki]
      unfold MarksOk at h3 ⊢
      split at h3
      · rename_i hk
        rw [if_pos hk, dropMk_len, List.length_set]
        refine ⟨h3.1, fun q hq hq' => ?_⟩
        have hq0 : q < (mksOf gs[i]).length := by rw [dropMk_len] at hq; exact hq
        have hq1 : q < ys.length := by rw [List.length_set] at hq'; exact hq'
        have h5 := h3.2 q hq0 hq1
        rw [dropMk_get b many _ q hq0 hq]
        by_cases e2 : q = b
        · subst e2
          rw [if_pos rfl, List.getElem_set_self]
          exact ⟨Int.le_max_left _ _, hm _ h5.1 h5.2⟩
        · rw [if_neg e2, List.getElem_set_ne (fun h => e2 h.symm)]
          exact h5
      · rename_i hk
        rw [if_neg hk, dropMk_len]
        exact h3
    · intro h5 h6
      have h7 : i - 1 < gs.length := by rw [List.length_map] at h5; exact h5
      rw [e, dropMk_nu]
      have e' : (gs.map (dropMk b many))[i - 1] = dropMk b many gs[i - 1] := List.getElem_map _
      rw [e', dropMk_nu]
      exact h4 h7 h6
theorem PlainOk.row {x : Cfg} {ys : Ys} {gs : List GoTy.T} (h : PlainOk x ys gs) {b : Nat} (hb : b < ys.length) : 1 ≤ (ys[b]).length ∧ (ys[b]).length ≤ 512 ∧ ∀ k (hk : k < (ys[b]).length), ((ys[b])[k]).length = 128 := by
  obtain ⟨h1, h2, h3⟩ := h.vals b hb
  exact ⟨h1, h2, fun k hk => h3 k hk⟩
theorem PlainOk.drop {x : Cfg} {ys : Ys} {gs : List GoTy.T} (h : PlainOk x ys gs) {b many : Nat} (hb : b < ys.length) (hm : many < (ys[b]).length) : PlainOk x (dropY b many ys) (dropG b many gs) := by
  obtain ⟨h1, h2, h3⟩ := h.row hb
  unfold dropY
  rw [getD_lt hb]
  refine h.turn hb many _ ⟨by rw [List.length_drop]; omega, by rw [List.length_drop]; omega, fun k hk => ?_⟩ (fun m m0 m1 => ?_)
  · rw [List.getElem_drop]
    exact h3 _ _
  · rw [List.length_drop]
    omega
theorem dropMk_none {b : Nat} {g : GoTy.T} (h : ∀ q (hq : q < (mksOf g).length), 0 ≤ (mksOf g)[q]) : dropMk b 0 g = g := by
  by_cases hn : mksOf g = []
  · unfold dropMk
    rw [if_pos hn]
  · unfold dropMk
    rw [if_neg hn]
    have e : (mksOf g).set b (max 0 ((mksOf g).getD b 0 - ((0 : Nat) : Int))) = mksOf g := by
      apply List.ext_getElem
      · rw [List.length_set]
      · intro i h1 h2
        rw [List.getElem_set]
        by_cases hb : b = i
        · subst hb
          have := h b h2
          rw [if_pos rfl, List.getD_eq_getElem?_getD, List.getElem?_eq_getElem h2]
          show max 0 ((mksOf g)[b] - ((0 : Nat) : Int)) = _
          omega
        · rw [if_neg hb]
    rw [e, setMks_self]
theorem PlainOk.marks {x : Cfg} {ys : Ys} {gs : List GoTy.T} (h : PlainOk x ys gs) {j : Nat} (hj : j < gs.length) : (mksOf gs[j] = [] ∨ (mksOf gs[j]).length = ys.length) ∧ ∀ q (hq : q < (mksOf gs[j]).length), ∃ hq' : q < ys.length, 0 ≤ (mksOf gs[j])[q] ∧ (mksOf gs[j])[q] < ((ys[q]).length : Int) := by
  obtain ⟨⟨_, _, h3⟩, _⟩ := h.goes j hj
  unfold MarksOk at h3
  split at h3
  · exact ⟨.inr h3.1, fun q hq => ⟨by omega, h3.2 q hq (by omega)⟩⟩
  · exact ⟨.inl (List.eq_nil_of_length_eq_zero h3), fun q hq => by omega⟩
theorem PlainOk.none {x : Cfg} {ys : Ys} {gs : List GoTy.T} (h : PlainOk x ys gs) (b : Nat) : dropG b 0 gs = gs := by
  unfold dropG
  apply List.ext_getElem
  · rw [List.length_map]
  · intro i h1 h2
    rw [List.getElem_map]
    refine dropMk_none fun q hq => ?_
    obtain ⟨_, h3, _⟩ := (h.marks h2).2 q hq
    exact h3
theorem PlainOk.push {x : Cfg} {ys : Ys} {gs : List GoTy.T} (h : PlainOk x ys gs) {b : Nat} (hb : b < ys.length) {v : List UInt8} (hv : v.length = 128) (hl : (ys[b]).length < 512) : PlainOk x (pushY b v ys) gs := by
  obtain ⟨h1, h2, h3⟩ := h.row hb
  unfold pushY
  rw [getD_lt hb]
  have := h.turn hb 0 (ys[b] ++ [v]) ⟨by rw [List.length_append]; omega, by rw [List.length_append, List.length_singleton]; omega, fun k hk => ?_⟩ (fun m m0 m1 => by rw [List.length_append, List.length_singleton]; omega)
  · rwa [h.none] at this
  · rw [List.getElem_append]
    split
    · exact h3 _ _
    · simpa using hv
theorem put_fua {b : Nat} {v : List UInt8} {s : Ys × List GoTy.T} (hb : b < s.1.length) : putS 3 b v s = (s.1.set b [v], dropG b (s.1[b]).length s.2) := by
  unfold putS dropS dropY pushY
  rw [if_pos rfl, getD_lt hb]
  have e : (s.1[b] ++ [v]).length - 1 = (s.1[b]).length := by rw [List.length_append, List.length_singleton]; omega
  have e2 : (s.1.set b (s.1[b] ++ [v])).getD b [] = s.1[b] ++ [v] := by
    rw [List.getD_eq_getElem?_getD, List.getElem?_set_self hb]; rfl
  simp only [e, e2]
  rw [List.set_set, List.drop_left]
theorem PlainOk.put {x : Cfg} {ys : Ys} {gs : List GoTy.T} (h : PlainOk x ys gs) {k : Int} {b : Nat} (hb : b < ys.length) {v : List UInt8} (hv : v.length = 128) (hl : ¬ 512 < ((putS k b v (ys, gs)).1.getD b []).length) : PlainOk x (putS k b v (ys, gs)).1 (putS k b v (ys, gs)).2 := by
  by_cases hk : k = 3
  · subst hk
    rw [put_fua hb]
    exact h.turn hb (ys[b]).length [v] ⟨by simp, by simp, fun k hk => by
      have : k = 0 := by simpa using hk
      subst this
      exact hv⟩ (fun m m0 m1 => by show max 0 (m - ((ys[b]).length : Int)) < 1; omega)
  · have e : putS k b v (ys, gs) = (pushY b v ys, gs) := by unfold putS; rw [if_neg hk]
    rw [e] at hl ⊢
    refine h.push hb hv ?_
    have e2 : (pushY b v ys).getD b [] = ys[b] ++ [v] := by
      unfold pushY
      rw [List.getD_eq_getElem?_getD, List.getElem?_set_self hb, getD_lt hb]; rfl
    rw [e2, List.length_append, List.length_singleton] at hl
    omega

/-! ### one request goes -/
theorem PlainOk.less {x : Cfg} {ys : Ys} {gs : List GoTy.T} (h : PlainOk x ys gs) : ∀ (j i : Nat) (hj : j < gs.length) (hi : i < j), nuOf (gs[i]'(by omega)) < nuOf gs[j]
  | 0, i, hj, hi => by omega
  | j + 1, i, hj, hi => by
    have h1 := (h.goes (j + 1) hj).2 (by omega) (by omega)
    simp only [Nat.add_sub_cancel] at h1
    by_cases e : i = j
    · subst e; exact h1
    · exact Int.lt_trans (h.less j i (by omega) (by omega)) h1
theorem PlainOk.one {x : Cfg} {ys : Ys} {gs : List GoTy.T} (h : PlainOk x ys gs) {i j : Nat} (hi : i < gs.length) (hj : j < gs.length) (e : nuOf gs[i] = nuOf gs[j]) : i = j := by
  rcases Nat.lt_trichotomy i j with h1 | h1 | h1
  · have := h.less j i hj h1; omega
  · exact h1
  · have := h.less i j hi h1; omega
theorem PlainOk.erase {x : Cfg} {ys : Ys} {gs : List GoTy.T} (h : PlainOk x ys gs) {j : Nat} (hj : j < gs.length) : PlainOk x ys (gs.eraseIdx j) where
  cfg := h.cfg
  len := h.len
  few := by rw [List.length_eraseIdx_of_lt hj]; have := h.few; omega
  vals := h.vals
  goes := fun i hi => by
    rw [List.length_eraseIdx_of_lt hj] at hi
    have hget : ∀ q (hq : q < (gs.eraseIdx j).length), (gs.eraseIdx j)[q] = gs[if q < j then q else q + 1]'(by rw [List.length_eraseIdx_of_lt hj] at hq; split <;> omega) := by
      intro q hq
      rw [List.getElem_eraseIdx]
      split <;> simp [*]
    rw [hget]
    refine ⟨(h.goes _ _).1, fun h5 h6 => ?_⟩
    rw [hget]
    exact h.less _ _ _ (by split <;> split <;> omega)

/-! ### marks go -/
theorem dropS_len (b many : Nat) (s : Ys × List GoTy.T) : (dropS b many s).1.length = s.1.length ∧ (dropS b many s).2.length = s.2.length := by
  unfold dropS dropY dropG
  exact ⟨List.length_set, List.length_map _⟩
theorem marksS_ok {x : Cfg} {ms : List Int} {s : Ys × List GoTy.T} (h : PlainOk x s.1 s.2) (hl : ms.length ≤ s.1.length) (hm : ∀ q (hq : q < ms.length), ∃ hq' : q < s.1.length, 0 ≤ ms[q] ∧ ms[q] < ((s.1[q]).length : Int)) :
    ∀ j, j ≤ ms.length → PlainOk x (marksS ms j s).1 (marksS ms j s).2 ∧ (marksS ms j s).1.length = s.1.length ∧ (marksS ms j s).2.length = s.2.length ∧ (∀ q, j ≤ q → (marksS ms j s).1.getD q [] = s.1.getD q []) ∧ ∀ q, q < j → (marksS ms j s).1.getD q [] = (s.1.getD q []).drop (ms.getD q 0).toNat
  | 0, _ => ⟨h, rfl, rfl, fun _ _ => rfl, fun q hq => by omega⟩
  | j + 1, hj => by
    obtain ⟨h1, h2, h3, h4, h5⟩ := marksS_ok h hl hm j (by omega)
    obtain ⟨hq', m0, m1⟩ := hm j (by omega)
    have hjs : j < (marksS ms j s).1.length := by rw [h2]; exact hq'
    have e0 : ms.getD j 0 = ms[j] := by rw [List.getD_eq_getElem?_getD, List.getElem?_eq_getElem (by omega)]; rfl
    have e1 : (marksS ms j s).1[j] = s.1[j] := by rw [← getD_lt hjs, h4 j (Nat.le_refl _), getD_lt hq']
    show PlainOk x (dropS j (ms.getD j 0).toNat (marksS ms j s)).1 (dropS j (ms.getD j 0).toNat (marksS ms j s)).2 ∧ (dropS j (ms.getD j 0).toNat (marksS ms j s)).1.length = _ ∧ (dropS j (ms.getD j 0).toNat (marksS ms j s)).2.length = _ ∧ (∀ q, j + 1 ≤ q → (dropS j (ms.getD j 0).toNat (marksS ms j s)).1.getD q [] = _) ∧ ∀ q, q < j + 1 → (dropS j (ms.getD j 0).toNat (marksS ms j s)).1.getD q [] = _
    refine ⟨h1.drop hjs (by rw [e1, e0]; omega), by rw [(dropS_len _ _ _).1]; exact h2, by rw [(dropS_len _ _ _).2]; exact h3, fun q hq => ?_, fun q hq => ?_⟩
    · rw [← h4 q (by omega)]
      unfold dropS dropY
      simp only [List.getD_eq_getElem?_getD]
      rw [List.getElem?_set_ne (by omega)]
    · by_cases e : q = j
      · subst e
        unfold dropS dropY
        simp only
        rw [List.getD_eq_getElem?_getD, List.getElem?_set_self hjs, h4 q (Nat.le_refl _)]
        rfl
      · rw [← h5 q (by omega)]
        unfold dropS dropY
        simp only [List.getD_eq_getElem?_getD]
        rw [List.getElem?_set_ne (fun h => e h.symm)]
theorem putS_len (k : Int) (b : Nat) (v : List UInt8) (s : Ys × List GoTy.T) : (putS k b v s).1.length = s.1.length ∧ (putS k b v s).2.length = s.2.length := by
  unfold putS
  split
  · rw [(dropS_len _ _ _).1, (dropS_len _ _ _).2]
    exact ⟨List.length_set, rfl⟩
  · exact ⟨List.length_set, rfl⟩
theorem blk_len {k : Int} {bs : List UInt8} {i : Nat} (h : kBytes k = true → i * 128 + 128 ≤ bs.length) : (blk k bs i).length = 128 := by
  unfold blk
  split
  · rename_i hk
    exact part128_len (h hk)
  · exact zeros_len
theorem endS_ok {x : Cfg} {k : Int} {bs : List UInt8} {a : Nat} {s : Ys × List GoTy.T} (h : PlainOk x s.1 s.2) {y : Nat} (hy : a + y ≤ s.1.length) (hb : kBytes k = true → y * 128 ≤ bs.length) :
    ∀ i, i ≤ y → ∀ t, endS k bs a i s = some t → PlainOk x t.1.1 t.1.2 ∧ t.1.1.length = s.1.length ∧ t.1.2.length = s.2.length
  | 0, _, t, ht => by
    obtain rfl := Option.some.inj ht
    exact ⟨h, rfl, rfl⟩
  | i + 1, hi, t, ht => by
    obtain ⟨t', h1, h2⟩ := Option.bind_eq_some_iff.1 (show (endS k bs a i s).bind (stepS k bs a i) = some t from ht)
    obtain ⟨k1, k2, k3⟩ := endS_ok h hy hb i (by omega) t' h1
    unfold stepS at h2
    split at h2
    · split at h2
      · cases h2
      · rename_i hl
        obtain rfl := Option.some.inj h2
        have hv := blk_len (k := k) (bs := bs) (i := i) (fun hk => by have := hb hk; omega)
        exact ⟨k1.put (by omega) hv hl, by rw [(putS_len _ _ _ _).1]; exact k2, by rw [(putS_len _ _ _ _).2]; exact k3⟩
    · obtain rfl := Option.some.inj h2
      exact ⟨k1, k2, k3⟩

/-! ### what End answers -/
def endAll (ys : Ys) (gs : List GoTy.T) (j : Nat) : Option ((Ys × List GoTy.T) × List UInt8) :=
  match gs[j]? with
  | none => none
  | some g => endS ((kiOf g).toNat : Int) (datOf g) (atOf g).toNat (manyOf g).toNat (marksS (mksOf g) (mksOf g).length (ys, gs.eraseIdx j))
def EndRel (x : Cfg) (ys : Ys) (gs : List GoTy.T) (number v : Int) (zs : Ys) (hs : List GoTy.T) (rn : Int) (dat : List UInt8) (many : Int) : Prop :=
  (¬ PlainOk x ys gs ∧ v = 8 ∧ zs = [] ∧ hs = [] ∧ rn = 0 ∧ dat = [] ∧ many = 0) ∨
  (PlainOk x ys gs ∧ (∀ j (h : j < gs.length), ¬ nuOf gs[j] = number) ∧ v = 6 ∧ zs = [] ∧ hs = [] ∧ rn = 0 ∧ dat = [] ∧ many = 0) ∨
  (PlainOk x ys gs ∧ (∃ j, ∃ h : j < gs.length, nuOf gs[j] = number ∧ endAll ys gs j = none) ∧ v = 9 ∧ zs = [] ∧ hs = [] ∧ rn = 0 ∧ dat = [] ∧ many = 0) ∨
  (PlainOk x ys gs ∧ (∃ j, ∃ h : j < gs.length, nuOf gs[j] = number ∧ endAll ys gs j = some ((zs, hs), dat) ∧ many = manyOf gs[j]) ∧ v = 0 ∧ rn = number)
theorem EndRel.one {x : Cfg} {ys : Ys} {gs : List GoTy.T} {number v v' : Int} {zs zs' : Ys} {hs hs' : List GoTy.T} {rn rn' : Int} {dat dat' : List UInt8} {many many' : Int} (h : EndRel x ys gs number v zs hs rn dat many) (h' : EndRel x ys gs number v' zs' hs' rn' dat' many') : v = v' ∧ zs = zs' ∧ hs = hs' ∧ rn = rn' ∧ dat = dat' ∧ many = many' := by
  rcases h with ⟨h1, rfl, rfl, rfl, rfl, rfl, rfl⟩ | ⟨h1, h2, rfl, rfl, rfl, rfl, rfl, rfl⟩ | ⟨h1, ⟨j, hj, h2, h3⟩, rfl, rfl, rfl, rfl, rfl, rfl⟩ | ⟨h1, ⟨j, hj, h2, h3, rfl⟩, rfl, rfl⟩ <;>
    rcases h' with ⟨k1, rfl, rfl, rfl, rfl, rfl, rfl⟩ | ⟨k1, k2, rfl, rfl, rfl, rfl, rfl, rfl⟩ | ⟨k1, ⟨i, hi, k2, k3⟩, rfl, rfl, rfl, rfl, rfl, rfl⟩ | ⟨k1, ⟨i, hi, k2, k3, rfl⟩, rfl, rfl⟩ <;>
    first
      | exact ⟨rfl, rfl, rfl, rfl, rfl, rfl⟩
      | exact absurd h1 k1
      | exact absurd k1 h1
      | exact absurd h2 (k2 _ hj)
      | exact absurd k2 (h2 _ hi)
      | (obtain rfl := h1.one hi hj (k2.trans h2.symm)
         rw [h3] at k3
         cases k3 <;> exact ⟨rfl, rfl, rfl, rfl, rfl, rfl⟩)
end Go.Proofs.Ytclbihcggjjgaaa
/- Layer 30 (model): the program: a block's first values go, and marks move along. -/
namespace Go.Proofs.Ytclbihcggjjgaaa
open Go Go.RowKit
set_option linter.unusedSimpArgs false
set_option linter.unusedVariables false

/-- what a call that works on its own leaves -/
structure Kp (lo : Nat) (w w' : World) : Prop where
  below : Below lo w w'
  box : ∀ (b : Nat) (cs : Array Value) (t : TypeId), BoxOf w b cs t → t ≠ 30 → t ≠ 29 → t ≠ 3 → BoxOf w' b cs t
theorem Kp.refl (lo : Nat) (w : World) : Kp lo w w := ⟨Below.refl _ _, fun _ _ _ h _ _ _ => h⟩
theorem Kp.trans {lo : Nat} {a b c : World} (h : Kp lo a b) (k : Kp lo b c) : Kp lo a c := ⟨h.below.trans k.below, fun g cs t h1 h2 h3 h4 => k.box g cs t (h.box g cs t h1 h2 h3 h4) h2 h3 h4⟩
theorem Kp.of_below {lo : Nat} {w w' : World} (h : Below w.heap.size w w') (hl : lo ≤ w.heap.size) : Kp lo w w' := ⟨h.mono hl, fun g cs t h1 _ _ _ => h1.next h⟩
theorem Kp.of_but {lo : Nat} {w w' : World} {t : TypeId} (h : Below lo w w') (hb : But t w w') (ht : t = 30 ∨ t = 29 ∨ t = 3) : Kp lo w w' := ⟨h, fun g cs t' h1 h2 h3 h4 => h1.but hb (by rcases ht with rfl | rfl | rfl <;> assumption)⟩
theorem But.setCell {w : World} {g i : Nat} {cs : Array Value} {t : TypeId} (h : BoxOf w g cs t) (v : Value) : But t w (w.setCell ⟨g, i, none⟩ v) := fun b hb => by
  by_cases e : b = g
  · exact .inr ⟨cs, e ▸ h⟩
  · exact .inl (Below.heap_setCell _ _ _ _ e)
theorem But.grown {w w' : World} {g : Nat} {cs : Array Value} {t : TypeId} (h : BoxOf w g cs t) (hg : w.grownBy w' (some g)) : But t w w' := fun b hb => by
  by_cases e : b = g
  · exact .inr ⟨cs, e ▸ h⟩
  · exact .inl (hg.block b hb (fun e' => e (Option.some.inj e')))
/-- marks, so far -/
def dropJ (b many j : Nat) (gs : List GoTy.T) : List GoTy.T := (gs.take j).map (dropMk b many) ++ gs.drop j
theorem dropJ_all {b many j : Nat} {gs : List GoTy.T} (h : ¬ j < gs.length) : dropJ b many j gs = dropG b many gs := by
  unfold dropJ dropG
  rw [List.take_of_length_le (by omega), List.drop_of_length_le (by omega), List.append_nil]
theorem dropJ_len (b many j : Nat) (gs : List GoTy.T) : (dropJ b many j gs).length = gs.length := by
  unfold dropJ
  rw [List.length_append, List.length_map, List.length_take, List.length_drop]
  omega
theorem dropJ_at {b many j : Nat} {gs : List GoTy.T} (h : j < gs.length) (h' : j < (dropJ b many j gs).length) : (dropJ b many j gs)[j] = gs[j] := by
  have e : (dropJ b many j gs)[j]? = gs[j]? := by
    unfold dropJ
    rw [List.getElem?_append_right (by rw [List.length_map, List.length_take]; omega), List.getElem?_drop, List.length_map, List.length_take, show j + (j - min j gs.length) = j by omega]
  rw [List.getElem?_eq_getElem h', List.getElem?_eq_getElem h] at e
  exact Option.some.inj e
theorem dropJ_step {b many j : Nat} {gs : List GoTy.T} (h : j < gs.length) : dropJ b many (j + 1) gs = (dropJ b many j gs).set j (dropMk b many gs[j]) := by
  unfold dropJ
  rw [List.set_append_right _ _ (by rw [List.length_map, List.length_take]; omega), List.take_succ_eq_append_getElem h, List.map_append, List.append_assoc]
  congr 1
  rw [List.length_map, List.length_take, show j - min j gs.length = 0 by omega, List.drop_eq_getElem_cons h]
  rfl
theorem dropMk_some {b many : Nat} {g : GoTy.T} {x : Int} (h : b < (mksOf g).length) (hx : x = max 0 ((mksOf g)[b] - (many : Int))) : setMks g ((mksOf g).set b x) = dropMk b many g := by
  have hne : mksOf g ≠ [] := fun e => by rw [e] at h; simp at h
  unfold dropMk
  rw [if_neg hne, List.getD_eq_getElem?_getD, List.getElem?_eq_getElem h, hx]
  rfl
theorem dropMk_skip {b many : Nat} {g : GoTy.T} (h : (mksOf g).length = 0) : dropMk b many g = g := if_pos (List.eq_nil_of_length_eq_zero h)
/-- what 'drop' leaves -/
def DropIs (By : Nat → Prop) (lo R : Nat) (B : Option Addr) (d : Nat) (ys : Ys) (gs : List GoTy.T) (w w' : World) : Prop :=
  Kp lo w w' ∧ MayS w' By lo R ys ∧ GoS w' By lo B d gs ∧ ∀ b, By b → w'.heap[b]? = w.heap[b]?

theorem drop_mid {By : Nat → Prop} {lo R : Nat} {B : Option Addr} {d : Nat} {ys : Ys} {gs : List GoTy.T} {b many : Nat} {w : World} (hM : MayS w By lo R ys) (hG : GoS w By lo B d gs) (hBy : ∀ b, By b → b < w.heap.size) (hb : b < ys.length) (hm : many ≤ (ys[b]).length) :
    ∃ g o c, w.cell? ⟨R, b, none⟩ = some (.slice (some ⟨g, o, none⟩) (ys[b]).length c) ∧ (lo ≤ R ∧ ∃ cur : Array Value,
      Calls Try.prog 88 #[.slice (some ⟨g, o, none⟩) (ys[b]).length c, .int .i64 0, .int .i64 (many : Int)] w (fun e w' => e = .returned (.slice (some ⟨g, o, none⟩) ((ys[b]).length - many) c) ∧ DelIs g o 1 (ys[b]).length 0 many cur 29 w w') ∧
      ∀ w1, DelIs g o 1 (ys[b]).length 0 many cur 29 w w1 → ∃ cs : Array Value, BoxOf w1 R cs 30 ∧ b < cs.size ∧ DropIs By lo R B d (dropY b many ys) gs w (w1.setCell ⟨R, b, none⟩ (.slice (some ⟨g, o, none⟩) ((ys[b]).length - many) c))) := by
  obtain ⟨cells, g, o, c, q1, q2, q3, q4, q5⟩ := hM.row hb
  obtain ⟨cur, k1, k2, k3, k4, k5, k6⟩ := q4
  refine ⟨g, o, c, by rw [q1.cell]; exact q3, q2.1, cur, ?_, fun w1 hD => ?_⟩
  · have h := delL_any g o (ys[b]).length c 0 many cur w k1 k2 k3 (by rw [Nat.mul_one]; exact k4) (Nat.zero_le _) hm (fun q hq => by
      rw [Nat.mul_one] at hq
      obtain ⟨u, h1, h2⟩ := k6 q hq
      exact ⟨u, h1, RdIn.plain _ h2 u (by simp)⟩)
    rw [Nat.sub_zero] at h
    exact h
  · obtain ⟨hg, cur', d1, d2, d3⟩ := hD
    have hgR : g ≠ R := box_diff k1 q1 (by decide)
    have r1 : BoxOf w1 R cells 30 := q1.grown hg (fun e => hgR (Option.some.inj e))
    have hbc : b < cells.size := by have := (List.getElem?_eq_some_iff.1 q3).1; rwa [Array.length_toList] at this
    have hf : ∀ k, k < w.heap.size → k ≠ R → k ≠ g → (w1.setCell ⟨R, b, none⟩ (.slice (some ⟨g, o, none⟩) ((ys[b]).length - many) c)).heap[k]? = w.heap[k]? := fun k hk h1 h2 =>
      (Below.heap_setCell _ _ _ _ h1).trans (hg.block k hk (fun e => h2 (Option.some.inj e)))
    have hB2 : ∀ k, By k → (w1.setCell ⟨R, b, none⟩ (.slice (some ⟨g, o, none⟩) ((ys[b]).length - many) c)).heap[k]? = w.heap[k]? := fun k hk => hf k (hBy k hk) (fun e => q2.2 (e ▸ hk)) (fun e => k5.2 (e ▸ hk))
    have hs := msize w1 ⟨R, b, none⟩ (.slice (some ⟨g, o, none⟩) ((ys[b]).length - many) c)
    have kp : Kp lo w (w1.setCell ⟨R, b, none⟩ (.slice (some ⟨g, o, none⟩) ((ys[b]).length - many) c)) := by
      refine ⟨⟨hg.os, hg.tape, hg.output, by rw [hs]; exact hg.size, fun k hk => ?_⟩, fun k cs t h1 h2 h3 h4 => ?_⟩
      · by_cases hk2 : k < w.heap.size
        · exact hf k hk2 (fun e => by have := q2.1; omega) (fun e => by have := k5.1; omega)
        · have := q1.lt
          have := q2.1
          omega
      · exact BoxOf.but (BoxOf.but h1 (But.grown k1 hg) h3) (But.setCell r1 _) h2
    refine ⟨cells, r1, hbc, kp, ?_, ?_, hB2⟩
    · have hl : (((ys[b]).drop many).length) = (ys[b]).length - many := List.length_drop
      have e1 : dropY b many ys = ys.set b ((ys[b]).drop many) := by unfold dropY; rw [getD_lt hb]
      rw [e1]
      refine q5 _ By g o c ((ys[b]).drop many) (fun k hk h1 h2 => hf k hk h1 h2) ?_ ?_ (.inl rfl) (fun k hk => ⟨hBy k hk, hk⟩) (fun k _ h => h)
      · rw [hl]
        exact mbox_self r1 b _
      · refine ⟨cur', mbox_else d1 hgR b _, by rw [hl]; omega, k3, by rw [d2]; exact k4, k5, fun k hk => ?_⟩
        rw [hl] at hk
        obtain ⟨u, h1, h2⟩ := k6 (many + k) (by omega)
        refine ⟨u, ?_, ?_⟩
        · rw [d3 k (by omega), if_neg (by omega), Nat.sub_zero, Nat.mul_one, Nat.add_comm k many]
          exact h1
        · rw [List.getElem_drop]
          exact h2.frame hB2
    · have g1 : GoS w1 By lo B d gs := hG.but (t := 29) (by decide) (by decide) (But.grown k1 hg) (fun k hk => hg.block k (hBy k hk) (fun e => k5.2 ((Option.some.inj e) ▸ hk))) (fun _ h => h) (fun _ _ h => h)
      exact g1.but (t := 30) (by decide) (by decide) (But.setCell r1 _) (fun k hk => Below.heap_setCell _ _ _ _ (fun e => q2.2 (by have e' : k = R := e; exact e' ▸ hk))) (fun _ h => h) (fun _ _ h => h)

theorem DropIs.step {By : Nat → Prop} {lo R : Nat} {B : Option Addr} {d : Nat} {ys ys' : Ys} {gs gs' : List GoTy.T} {w w' w'' : World} (h : DropIs By lo R B d ys gs w w') (h2 : DropIs By lo R B d ys' gs' w' w'') : DropIs By lo R B d ys' gs' w w'' :=
  ⟨h.1.trans h2.1, h2.2.1, h2.2.2.1, fun b hb => (h2.2.2.2 b hb).trans (h.2.2.2 b hb)⟩
theorem DropIs.next {By : Nat → Prop} {lo R : Nat} {B : Option Addr} {d : Nat} {ys : Ys} {gs : List GoTy.T} {w w' w'' : World} (h : DropIs By lo R B d ys gs w w') (hb : Below w'.heap.size w' w'') (hlo : lo ≤ w.heap.size) (hBy : ∀ b, By b → b < w.heap.size) : DropIs By lo R B d ys gs w w'' := by
  have hs := h.1.below.size
  have hBy' : ∀ b, By b → b < w'.heap.size := fun b hb => Nat.lt_of_lt_of_le (hBy b hb) hs
  exact h.step ⟨Kp.of_below hb (by omega), h.2.1.mono hb hBy' (fun _ h => h) (fun _ _ h => h), h.2.2.1.mono hb hBy' (fun _ h => h) (fun _ _ h => h), fun b hb' => hb.block b (hBy' b hb')⟩
/-- a mark turns -/
theorem DropIs.mark {By : Nat → Prop} {lo R : Nat} {B : Option Addr} {d : Nat} {ys : Ys} {gs gs' : List GoTy.T} {w w' : World} {b i : Nat} {cur : Array Value} {v : Value} (h : DropIs By lo R B d ys gs w w') (hb : BoxOf w' b cur 3) (hl : lo ≤ b ∧ ¬ By b) (hg : GoS (w'.setCell ⟨b, i, none⟩ v) By lo B d gs') : DropIs By lo R B d ys gs' w (w'.setCell ⟨b, i, none⟩ v) := by
  have hB : ∀ k, By k → (w'.setCell ⟨b, i, none⟩ v).heap[k]? = w'.heap[k]? := fun k hk => Below.heap_setCell _ _ _ _ (fun e => hl.2 (by have e' : k = b := e; exact e' ▸ hk))
  exact h.step ⟨Kp.of_but (Below.setCell (Below.refl _ _) hl.1 v) (But.setCell hb v) (.inr (.inr rfl)), h.2.1.but (by decide) (by decide) (But.setCell hb v) hB, hg, hB⟩
theorem DropIs.cast {By : Nat → Prop} {lo R : Nat} {B : Option Addr} {d : Nat} {ys : Ys} {gs gs' : List GoTy.T} {w w' : World} (h : DropIs By lo R B d ys gs w w') (e : gs = gs') : DropIs By lo R B d ys gs' w w' := e ▸ h

set_option maxRecDepth 100000 in
set_option maxHeartbeats 400000 in
theorem sdrop_any (By : Nat → Prop) (lo R cR : Nat) (B : Option Addr) (d : Nat) (ys : Ys) (gs : List GoTy.T) (pb b many : Nat) (w : World) (hP : BoxOf w pb #[.slice (some ⟨R, 0, none⟩) ys.length cR, .slice B gs.length d] 28) (hM : MayS w By lo R ys) (hG : GoS w By lo B d gs) (hBy : ∀ b, By b → b < w.heap.size) (hlo : lo ≤ w.heap.size) (hb : b < ys.length) (hm : many ≤ (ys[b]).length ∧ many ≤ 1000)
    (hmk : ∀ j (h : j < gs.length), (mksOf gs[j] = [] ∨ (mksOf gs[j]).length = ys.length) ∧ ∀ q (h' : q < (mksOf gs[j]).length), 0 ≤ (mksOf gs[j])[q] ∧ (mksOf gs[j])[q] ≤ 1000) (hgl : gs.length ≤ 8) :
    Calls Try.prog 78 #[.pointer (some ⟨pb, 0, none⟩), .int .i64 (b : Int), .int .i64 (many : Int)] w fun e w' => (∃ v, e = .returned v) ∧ DropIs By lo R B d (dropY b many ys) (dropG b many gs) w w' := by
  obtain ⟨g, o, c, hRb, hlR, cur, hcall, hmid⟩ := drop_mid hM hG hBy hb hm.1
  have HCD := Lib.hid hcall
  have HMID := Lib.hid hmid
  have HMK := Lib.hid hmk
  have hp := hP.cell
  clear hM hG hcall hmid hmk
  obtain ⟨n, hn⟩ : ∃ n, n = (ys[b]).length := ⟨_, rfl⟩
  rw [← hn] at HCD HMID hRb
  have HN := Lib.hid hn
  have HM2 := Lib.hid hm
  have HB2 := Lib.hid hBy
  have HGL := Lib.hid hgl
  have HLO := Lib.hid hlo
  clear hn hm hBy hgl hlo hlR
  go_enter Try.func78, Try.ntmps78
  go_wp2_with fail
  refine HCD.out.mono ?_
  rintro e w1 ⟨rfl, hd1⟩
  obtain ⟨cs, r1, hbc, hD⟩ := HMID.out w1 hd1
  have rc : w1.cell? ⟨R, b, none⟩ = some cs[b] := by rw [r1.cell, List.getElem?_eq_getElem (by rw [Array.length_toList]; exact hbc)]; rfl
  have rf := r1.free
  have HBC := Lib.hid hbc
  have HD := Lib.hid hD
  have HR1 := Lib.hid r1
  generalize cs[b] = old at rc
  clear hbc hD hd1 r1 HMID HCD
  go_upto_region 2 with fail
  clear rc rf hRb hp
  have hD2 := HD.out
  generalize w1.setCell ⟨R, b, none⟩ (.slice (some ⟨g, o, none⟩) (n - many) c) = w2 at *
  clear HD HR1
  have hp := (hD2.1.box _ _ _ hP (by decide) (by decide) (by decide)).cell
  go_wp2
  clear hp
  go_loopw [27] (fun i wr => ∃ (j : Nat), j ≤ gs.length ∧ i = .int .i64 j ∧ DropIs By lo R B d (dropY b many ys) (dropJ b many j gs) w wr) (fun i _ => gs.length - (intOf i).toNat)
  case atStart => exact ⟨0, by omega, rfl, hD2⟩
  case round =>
    obtain ⟨j, hj, rfl, hDr⟩ := hrel
    clear hD2
    by_cases hlt : j < gs.length
    · have hlj : j < (dropJ b many j gs).length := by rw [dropJ_len]; exact hlt
      obtain ⟨G, go, gcells, Ab, cb, Am, cm, rfl, g1, ⟨c0, c1, c2, c3, c4, c5⟩, g2, g3, g4, g5, g6⟩ := hDr.2.2.1.mark hlj
      rw [dropJ_at hlt] at c0 c1 c2 c3 c4 c5 g2 g3 g4 g5 g6
      have HSTEP := Lib.hid (dropJ_step (b := b) (many := many) hlt)
      have HMJ := Lib.hid (HMK.out j hlt)
      generalize hgj : gs[j] = gj at *
      have HGJ := Lib.hid hgj
      have HDR := Lib.hid hDr
      have HG6 := Lib.hid g6
      have HWJ := next_wrap (show gs.length ≤ maxLen by have := HGL.out; unfold maxLen; omega) hlt
      have HLJ := Lib.hid hlt
      clear g1 g2 g3 g4 g5 g6 hgj hDr hj hlj
      have X0 := BoxOf.new wr #[.int .i64 (nuOf gj), .int .u8 ((kiOf gj).toNat : Int), .int .i64 (atOf gj), .int .i64 (manyOf gj), .slice Ab (datOf gj).length cb, .slice Am (mksOf gj).length cm] 64
      have t0 := Ext.alloc (Below.refl wr.heap.size wr) (.cells #[.int .i64 (nuOf gj), .int .u8 ((kiOf gj).toNat : Int), .int .i64 (atOf gj), .int .i64 (manyOf gj), .slice Ab (datOf gj).length cb, .slice Am (mksOf gj).length cm] 64)
      go_upto_region 5 with fail
      generalize wr.alloc (.cells #[.int .i64 (nuOf gj), .int .u8 ((kiOf gj).toNat : Int), .int .i64 (atOf gj), .int .i64 (manyOf gj), .slice Ab (datOf gj).length cb, .slice Am (mksOf gj).length cm] 64) = wa at *
      have x0 := X0.cell
      have HDA := Lib.hid (HDR.out.next t0 HLO.out HB2.out)
      rcases Nat.eq_zero_or_pos (mksOf gj).length with hz | hz
      · have HZ := Lib.hid hz
        have e0 : decide ((0 : Int) < ((mksOf gj).length : Int)) = false := by rw [hz]; rfl
        rw [hz] at x0
        clear hz
        go_wp2
        go_roundw
        case rel =>
          refine ⟨j + 1, HLJ.out, by first | exact round_same HWJ | go_num, HDA.out.cast ?_⟩
          rw [HSTEP.out, dropMk_skip HZ.out]
          have h1 := dropJ_at (b := b) (many := many) HLJ.out (by rw [dropJ_len]; exact HLJ.out)
          rw [HGJ.out] at h1
          rw [← h1, List.set_getElem_self]
        case measure => first | exact round_less HWJ HLJ.out | (have h := HLJ.out; simp [intOf]; omega)
      · obtain ⟨mb, oo, mcur, rfl, m1, m2, m3, m4⟩ := HG6.out hz
        have hbl : b < (mksOf gj).length := by
          rcases HMJ.out.1 with h | h
          · rw [h] at hz; simp at hz
          · rw [h]; exact hb
        have hm5 := HMJ.out.2 b hbl
        have m6 := m3 b hbl
        have HM4 := Lib.hid m4
        have HM1 := Lib.hid (m1.next t0)
        have HM22 := Lib.hid m2
        have hmn : mb < wr.heap.size := m1.lt
        have m7 : wa.cell? ⟨mb, oo + b, none⟩ = some (.int .i64 (mksOf gj)[b]) := (t0.cell (p := ⟨mb, oo + b, none⟩) hmn).trans m6
        have e0 : decide ((0 : Int) < ((mksOf gj).length : Int)) = true := decide_eq_true (by omega)
        have HBL := Lib.hid hbl
        generalize hmv : (mksOf gj)[b] = mv at *
        have HMV := Lib.hid hmv
        have HM5 := Lib.hid hm5
        have e1 : IntKind.i64.wrap (mv - (many : Int)) = mv - (many : Int) := i64_fit (by have := HM2.out; omega)
        clear hmv m1 m2 m3 m4 m6 hz hmn
        go_upto_region 6 with fail
        have Xd := X0.drew
        have m8 : wa.drew.cell? ⟨mb, oo + b, none⟩ = some (.int .i64 mv) := m7
        refine wp_region_held_drew (S := fun w' => ∀ o, w'.cell? ⟨wr.heap.size, o, none⟩ = (#[.int .i64 (nuOf gj), .int .u8 ((kiOf gj).toNat : Int), .int .i64 (atOf gj), .int .i64 (manyOf gj), .slice Ab (datOf gj).length cb, .slice (some ⟨mb, oo, none⟩) (mksOf gj).length cm] : Array Value).toList[o]?) (by kernel_rfl) Xd.cell (fun hS => ?_)
        clear x0 m7
        refine wpAnyH_take (i := 0) (oi := _) (v := ?_) rfl (by kernel_rfl) (by kernel_rfl) (by kernel_rfl) (fun _ _ _ h => h) (Or.inl ⟨by rfl, ?_⟩) hS ?_
        rotate_left
        · (intro w hSw; (try dsimp only at hSw); go_simp; (try with_reducible rfl))
        rotate_left
        simp only [Act.put, List.getElem_toArray, List.getElem_cons_zero, List.getElem_cons_succ, List.setIfInBounds_toArray, List.set_cons_zero, List.set_cons_succ]
        refine wpAnyH_take (i := 1) (oi := _) (v := ?_) rfl (by kernel_rfl) (by kernel_rfl) (by kernel_rfl) (fun _ _ _ h => h) (Or.inl ⟨by rfl, ?_⟩) hS ?_
        rotate_left
        · (intro w hSw; (try dsimp only at hSw); go_simp; (try with_reducible rfl))
        rotate_left
        simp only [Act.put, List.getElem_toArray, List.getElem_cons_zero, List.getElem_cons_succ, List.setIfInBounds_toArray, List.set_cons_zero, List.set_cons_succ]
        refine wpAnyH_take (i := 2) (oi := _) (v := ?_) rfl (by kernel_rfl) (by kernel_rfl) (by kernel_rfl) (fun _ _ _ h => h) (Or.inl ⟨by rfl, ?_⟩) hS ?_
        rotate_left
        · (intro w hSw; (try dsimp only at hSw); go_simp; (try with_reducible rfl))
        rotate_left
        simp only [Act.put, List.getElem_toArray, List.getElem_cons_zero, List.getElem_cons_succ, List.setIfInBounds_toArray, List.set_cons_zero, List.set_cons_succ]
        refine wpAnyH_take (i := 3) (oi := _) (v := ?_) rfl (by kernel_rfl) (by kernel_rfl) (by kernel_rfl) (fun _ _ _ h => h) (Or.inl ⟨by rfl, ?_⟩) hS ?_
        rotate_left
        · (intro w hSw; (try dsimp only at hSw); go_simp; (try with_reducible rfl))
        rotate_left
        simp only [Act.put, List.getElem_toArray, List.getElem_cons_zero, List.getElem_cons_succ, List.setIfInBounds_toArray, List.set_cons_zero, List.set_cons_succ]
        refine wpAnyH_take (i := 4) (oi := _) (v := ?_) rfl (by kernel_rfl) (by kernel_rfl) (by kernel_rfl) (fun _ _ _ h => h) (Or.inl ⟨by rfl, ?_⟩) hS ?_
        rotate_left
        · (intro w hSw; (try dsimp only at hSw); go_simp; (try with_reducible rfl))
        rotate_left
        simp only [Act.put, List.getElem_toArray, List.getElem_cons_zero, List.getElem_cons_succ, List.setIfInBounds_toArray, List.set_cons_zero, List.set_cons_succ]
        refine wpAnyH_take (i := 5) (oi := _) (v := ?_) rfl (by kernel_rfl) (by kernel_rfl) (by kernel_rfl) (fun _ _ _ h => h) (Or.inl ⟨by rfl, ?_⟩) hS ?_
        rotate_left
        · (intro w hSw; (try dsimp only at hSw); go_simp; (try with_reducible rfl))
        rotate_left
        simp only [Act.put, List.getElem_toArray, List.getElem_cons_zero, List.getElem_cons_succ, List.setIfInBounds_toArray, List.set_cons_zero, List.set_cons_succ]
        refine wpAnyH_take (i := 6) (oi := _) (v := ?_) rfl (by kernel_rfl) (by kernel_rfl) (by kernel_rfl) (fun _ _ _ h => h) (Or.inl ⟨by rfl, ?_⟩) hS ?_
        rotate_left
        · (intro w hSw; (try dsimp only at hSw); go_simp; (try with_reducible rfl))
        rotate_left
        simp only [Act.put, List.getElem_toArray, List.getElem_cons_zero, List.getElem_cons_succ, List.setIfInBounds_toArray, List.set_cons_zero, List.set_cons_succ]
        refine wpAnyH_take (i := 8) (oi := _) (v := ?_) rfl (by kernel_rfl) (by kernel_rfl) (by kernel_rfl) (fun _ _ _ h => h) (Or.inl ⟨by rfl, ?_⟩) hS ?_
        rotate_left
        · (intro w hSw; (try dsimp only at hSw); go_simp; (try with_reducible rfl))
        rotate_left
        simp only [Act.put, List.getElem_toArray, List.getElem_cons_zero, List.getElem_cons_succ, List.setIfInBounds_toArray, List.set_cons_zero, List.set_cons_succ]
        refine wpAnyH_ready (rs := [7]) (by kernel_rfl) (by simp) ?_
        refine AllReadyH.cons rfl (fun K hK => ?_) AllReadyH.nil
        rw [if_pos (by rfl)]
        go_simp
        refine hK.out _ _ Xd.cell (fun hS' => ?_)
        clear hK K hS
        have hS := hS'
        clear hS'
        try simp only [Act.put, List.getElem_toArray, List.getElem_cons_zero, List.getElem_cons_succ, List.setIfInBounds_toArray, List.set_cons_zero, List.set_cons_succ]
        refine wpAnyH_take (i := 9) (oi := _) (v := ?_) rfl (by kernel_rfl) (by kernel_rfl) (by kernel_rfl) (fun _ _ _ h => h) (Or.inl ⟨by rfl, ?_⟩) hS ?_
        rotate_left
        · (intro w hSw; (try dsimp only at hSw); go_simp; (try with_reducible rfl))
        rotate_left
        simp only [Act.put, List.getElem_toArray, List.getElem_cons_zero, List.getElem_cons_succ, List.setIfInBounds_toArray, List.set_cons_zero, List.set_cons_succ]
        refine wpAnyH_take (i := 10) (oi := _) (v := ?_) rfl (by kernel_rfl) (by kernel_rfl) (by kernel_rfl) (fun _ _ _ h => h) (Or.inl ⟨by rfl, ?_⟩) hS ?_
        rotate_left
        · (intro w hSw; (try dsimp only at hSw); go_simp; (try with_reducible rfl))
        rotate_left
        simp only [Act.put, List.getElem_toArray, List.getElem_cons_zero, List.getElem_cons_succ, List.setIfInBounds_toArray, List.set_cons_zero, List.set_cons_succ]
        refine wpAnyH_take (i := 11) (oi := _) (v := ?_) rfl (by kernel_rfl) (by kernel_rfl) (by kernel_rfl) (fun _ _ _ h => h) (Or.inl ⟨by rfl, ?_⟩) hS ?_
        rotate_left
        · (intro w hSw; (try dsimp only at hSw); go_simp; (try with_reducible rfl))
        rotate_left
        simp only [Act.put, List.getElem_toArray, List.getElem_cons_zero, List.getElem_cons_succ, List.setIfInBounds_toArray, List.set_cons_zero, List.set_cons_succ]
        refine wpAnyH_ready (rs := [12]) (by kernel_rfl) (by simp) ?_
        refine AllReadyH.cons rfl (fun K hK => ?_) AllReadyH.nil
        rw [if_pos (by rfl)]
        have mf := (HM1.out.drew).free
        have hXm : wr.heap.size ≠ mb := box_diff Xd HM1.out.drew (by decide)
        go_simp
        have Xe := mbox_else Xd hXm (oo + b) (.int .i64 (max 0 (mv - (many : Int))))
        refine hK.out _ _ Xe.cell (fun hS' => ?_)
        clear hK K hS hS' mf
        try simp only [Act.put, List.getElem_toArray, List.getElem_cons_zero, List.getElem_cons_succ, List.setIfInBounds_toArray, List.set_cons_zero, List.set_cons_succ]
        refine wpAnyH_done (by kernel_rfl) ?_ _
        have HDE : Hid (DropIs By lo R (some ⟨G, go, none⟩) d (dropY b many ys) (dropJ b many (j + 1) gs) w (wa.setCell ⟨mb, oo + b, none⟩ (.int .i64 (max 0 (mv - (many : Int))))).drew) := by
          show DropIs By lo R (some ⟨G, go, none⟩) d (dropY b many ys) (dropJ b many (j + 1) gs) w (wa.drew.setCell ⟨mb, oo + b, none⟩ (.int .i64 (max 0 (mv - (many : Int)))))
          have td := Ext.drew t0
          have hs := HDR.out.1.below.size
          have hgo := HM4.out wa.drew b (max 0 (mv - (many : Int))) td (fun k hk => Nat.lt_of_lt_of_le (HB2.out k hk) hs) HBL.out (by have := HM2.out; have := HM5.out; constructor <;> omega)
          refine ((HDR.out.next td HLO.out HB2.out).mark HM1.out.drew HM22.out hgo).cast ?_
          rw [HSTEP.out]
          congr 1
          exact dropMk_some HBL.out (congrArg (fun z => max 0 (z - (many : Int))) HMV.out.symm)
        generalize (wa.setCell ⟨mb, oo + b, none⟩ (.int .i64 (max 0 (mv - (many : Int))))).drew = wz at *
        clear m8 Xd Xe t0 X0 hXm
        go_wp2
        go_roundw
        case rel => exact ⟨j + 1, HLJ.out, by first | exact round_same HWJ | go_num, HDE.out⟩
        case measure => first | exact round_less HWJ HLJ.out | (have h := HLJ.out; simp [intOf]; omega)
    · have HDE := Lib.hid (hDr.cast (dropJ_all hlt))
      go_wp2
      refine bodyPost_end (results_none rfl _ _ _) rfl ?_
      exact ⟨⟨_, rfl⟩, HDE.out⟩
end Go.Proofs.Ytclbihcggjjgaaa
/- Layer 30 (model): the program: a value comes behind a row's; the state of a plain array while a request ends. -/
namespace Go.Proofs.Ytclbihcggjjgaaa
open Go Go.RowKit
set_option linter.unusedSimpArgs false
set_option linter.unusedVariables false

/-- a value comes behind a row's -/
theorem wpList_pushS {P : Program} {w : World} {ops : Array Oper} {rest : List Oper} {op : Oper} {a : Act} {Q : Exit → Act → World → Prop} (hgd : op.guard = none) (s x : Operand) (t : TypeId)
    (hop : op.op = .call { callee := .builtin .append, args := #[s, x], argTypes := #[t, t] })
    (i : TypeInfo) (z : Value) (ht : P.underlying t = some (.slice 29)) (hi : P.info? 29 = some i) (hz : i.zero = some z) (hsize : i.size = 1) (hby : i.bytes = 24) (hzs : z.cells.size = 1)
    (By : Nat → Prop) (lo g o c : Nat) (zs : List (List UInt8)) (hrow : RowS w By lo g o c zs) (hs : a.eval s = .slice (some ⟨g, o, none⟩) zs.length c)
    (q k : Nat) (u : Value) (hx : a.eval x = .slice (some ⟨q, 0, none⟩) 1 k) (hq : w.cell? ⟨q, 0, none⟩ = some u) (v : List UInt8) (hu : RdIn w By (.sl .byte) v [u]) (hBy : ∀ b, By b → b < w.heap.size) (hl : zs.length ≤ 1000) (hlo : lo ≤ w.heap.size)
    (h : ∀ w' g' o' c', RowS w' By lo g' o' c' (zs ++ [v]) → (g' = g ∨ w.heap.size ≤ g') → w.grownBy w' (some g) → wpList P ops Q rest (a.put op.dst (.slice (some ⟨g', o', none⟩) (zs.length + 1) c')) w') : wpList P ops Q (op :: rest) a w := by
  obtain ⟨cur, k1, k2, k3, k4, k5, k6⟩ := hrow
  have hcl : cur.toList.length = cur.size := Array.length_toList
  have hu1 : u.oneCell' = true := RdIn.plain _ hu u (by simp)
  refine wpList_append_arg w hgd s x t hop 29 i z 1 24 ht hi hz hsize hby hzs (by decide) g o zs.length c ((cur.toList.drop o).take zs.length) hs ?_ ?_ ⟨q, 0, none⟩ 1 k [u] hx rfl ?_ ?_ ?_ ?_ ?_ ?_ ?_
  · rw [List.length_take, List.length_drop, hcl]; omega
  · intro j w2 hj
    rw [List.getElem?_take] at hj
    split at hj
    · rw [k1.cell, ← List.getElem?_drop]; exact hj
    · cases hj
  · intro j w2 hj
    have h0 : j = 0 := by have := (List.getElem?_eq_some_iff.1 hj).1; simpa using this
    subst h0
    rw [add_plain]
    rw [← hj]
    exact hq
  · intro w2 h2
    rw [List.mem_singleton.1 h2]
    exact hu1
  · intro hr j hj
    refine ⟨?_, k1.free _⟩
    have hj0 : j = 0 := by simpa using hj
    subst hj0
    rw [k1.cell, List.getElem?_eq_getElem (by rw [hcl]; omega)]
    rfl
  · unfold maxLen; omega
  · omega
  · intro hr
    obtain ⟨cur', d1, d2, d3⟩ := box_setCells [u] (o + zs.length * 1) w cur k1 (by simp; omega)
    have hg := grown_setCells g [u] (o + zs.length * 1) w
    refine h _ g o c ⟨cur', d1, by rw [List.length_append, List.length_singleton]; exact hr, k3, by rw [d2]; exact k4, k5, fun j hj => ?_⟩ (.inl rfl) hg
    have hB : ∀ b, By b → (w.setCells g (o + zs.length * 1) [u]).heap[b]? = w.heap[b]? := fun b hb => hg.block b (hBy b hb) (fun e => k5.2 ((Option.some.inj e) ▸ hb))
    rw [List.length_append, List.length_singleton] at hj
    by_cases hj2 : j < zs.length
    · obtain ⟨u2, e1, e2⟩ := k6 j hj2
      refine ⟨u2, ?_, ?_⟩
      · rw [d3, if_neg (by omega)]; exact e1
      · rw [List.getElem_append_left hj2]; exact e2.frame hB
    · have : j = zs.length := by omega
      subst this
      refine ⟨u, ?_, ?_⟩
      · rw [d3, if_pos (by simp), show o + zs.length - (o + zs.length * 1) = 0 by omega]; rfl
      · rw [List.getElem_append_right (Nat.le_refl _)]
        simp only [Nat.sub_self, List.getElem_singleton]
        exact hu.frame hB
  · intro hg0 v' w' hown hgr
    obtain ⟨g', c', cur', rfl, e1, e2, e3, e4, e5, e6⟩ := own_view hown (by omega)
    have hB : ∀ b, By b → w'.heap[b]? = w.heap[b]? := fun b hb => hgr.block b (hBy b hb) (fun e => by cases e)
    have hg2 : w.grownBy w' (some g) := ⟨hgr.os, hgr.tape, hgr.output, hgr.size, fun b hb _ => hgr.block b hb (fun e => by cases e)⟩
    refine h w' g' 0 c' ⟨cur', e2, by rw [List.length_append, List.length_singleton]; exact e3, e4, by rw [e5]; omega, ⟨by omega, fun hh => by have := hBy _ hh; omega⟩, fun j hj => ?_⟩ (.inr e1) hg2
    rw [List.length_append, List.length_singleton] at hj
    have e7 := e6 j (by omega)
    by_cases hj2 : j < zs.length
    · obtain ⟨u2, f1, f2⟩ := k6 j hj2
      refine ⟨u2, ?_, ?_⟩
      · rw [Nat.zero_add, e7, List.getElem?_append_left (by rw [List.length_take, List.length_drop, hcl]; omega), List.getElem?_take, if_pos hj2, List.getElem?_drop]
        exact f1
      · rw [List.getElem_append_left hj2]; exact f2.frame hB
    · have : j = zs.length := by omega
      subst this
      have hll : ((cur.toList.drop o).take zs.length).length = zs.length := by rw [List.length_take, List.length_drop, hcl]; omega
      refine ⟨u, ?_, ?_⟩
      · rw [Nat.zero_add, e7, List.getElem?_append_right (by rw [hll]; exact Nat.le_refl _), hll, Nat.sub_self]; rfl
      · rw [List.getElem_append_right (Nat.le_refl _)]
        simp only [Nat.sub_self, List.getElem_singleton]
        exact hu.frame hB

/-- a plain array of one's own, on the way -/
def ESt (By0 : Nat → Prop) (lo R : Nat) (B : Option Addr) (d : Nat) (s : Ys × List GoTy.T) (w w' : World) : Prop :=
  ∃ By : Nat → Prop, (∀ b, By0 b → By b) ∧ (∀ b, By b → NewB lo w' b) ∧ Kp lo w w' ∧ MayS w' By lo R s.1 ∧ GoS w' By lo B d s.2 ∧ ∀ b, By0 b → w'.heap[b]? = w.heap[b]?
theorem ESt.start {By : Nat → Prop} {lo R : Nat} {B : Option Addr} {d : Nat} {s : Ys × List GoTy.T} {w : World} (hM : MayS w By lo R s.1) (hG : GoS w By lo B d s.2) (hBy : ∀ b, By b → NewB lo w b) : ESt By lo R B d s w w :=
  ⟨By, fun _ h => h, hBy, Kp.refl _ _, hM, hG, fun _ _ => rfl⟩
theorem newB_next {lo : Nat} {w w' : World} {b : Nat} (h : NewB lo w b) (hs : w.heap.size ≤ w'.heap.size) (hb : w'.heap[b]? = w.heap[b]?) : NewB lo w' b := by
  obtain ⟨h1, h2, cs, t, h3⟩ := h
  exact ⟨h1, by omega, cs, t, by rw [hb]; exact h3⟩
theorem ESt.next {By0 : Nat → Prop} {lo R : Nat} {B : Option Addr} {d : Nat} {s : Ys × List GoTy.T} {w w' w'' : World} (h : ESt By0 lo R B d s w w') (hb : Below w'.heap.size w' w'') (hlo : lo ≤ w'.heap.size) : ESt By0 lo R B d s w w'' := by
  obtain ⟨By, h1, h2, h3, h4, h5, h6⟩ := h
  have hlt : ∀ b, By b → b < w'.heap.size := fun b hb => (h2 b hb).2.1
  exact ⟨By, h1, fun b hB => newB_next (h2 b hB) hb.size (hb.block b (hlt b hB)), h3.trans (Kp.of_below hb hlo), h4.mono hb hlt (fun _ h => h) (fun _ _ h => h), h5.mono hb hlt (fun _ h => h) (fun _ _ h => h), fun b hB => (hb.block b (hlt b (h1 b hB))).trans (h6 b hB)⟩
theorem ESt.cast {By0 : Nat → Prop} {lo R : Nat} {B : Option Addr} {d : Nat} {s s' : Ys × List GoTy.T} {w w' : World} (h : ESt By0 lo R B d s w w') (e : s = s') : ESt By0 lo R B d s' w w' := e ▸ h
/-- what 'drop' asks -/
def Fit (s : Ys × List GoTy.T) : Prop := s.2.length ≤ 8 ∧ s.1.length ≤ 1000 ∧ ∀ j (h : j < s.2.length), (mksOf s.2[j] = [] ∨ (mksOf s.2[j]).length = s.1.length) ∧ ∀ q (h' : q < (mksOf s.2[j]).length), 0 ≤ (mksOf s.2[j])[q] ∧ (mksOf s.2[j])[q] ≤ 1000
theorem PlainOk.fits {x : Cfg} {s : Ys × List GoTy.T} (h : PlainOk x s.1 s.2) : Fit s := by
  refine ⟨h.few, h.short, fun j hj => ⟨(h.marks hj).1, fun q hq => ?_⟩⟩
  obtain ⟨hq', h1, h2⟩ := (h.marks hj).2 q hq
  have := (h.row hq').2.1
  omega
theorem sdrop_est {By0 : Nat → Prop} {lo R cR : Nat} {B : Option Addr} {d : Nat} {s : Ys × List GoTy.T} {w w' : World} (h : ESt By0 lo R B d s w w') (hlo : lo ≤ w'.heap.size) {pb : Nat} (hP : BoxOf w' pb #[.slice (some ⟨R, 0, none⟩) s.1.length cR, .slice B s.2.length d] 28) (hf : Fit s) {b many : Nat} (hb : b < s.1.length) (hm : many ≤ (s.1[b]).length ∧ many ≤ 1000) :
    Calls Try.prog 78 #[.pointer (some ⟨pb, 0, none⟩), .int .i64 (b : Int), .int .i64 (many : Int)] w' fun e w'' => (∃ v, e = .returned v) ∧ ESt By0 lo R B d (dropS b many s) w w'' ∧ Kp lo w' w'' := by
  obtain ⟨By, h1, h2, h3, h4, h5, h6⟩ := h
  refine (sdrop_any By lo R cR B d s.1 s.2 pb b many w' hP h4 h5 (fun b hb => (h2 b hb).2.1) hlo hb hm hf.2.2 hf.1).mono ?_
  rintro e w'' ⟨hv, k1, k2, k3, k4⟩
  exact ⟨hv, ⟨By, h1, fun b hB => newB_next (h2 b hB) k1.below.size (k4 b hB), h3.trans k1, k2, k3, fun b hB => (k4 b (h1 b hB)).trans (h6 b hB)⟩, k1⟩
end Go.Proofs.Ytclbihcggjjgaaa
/- Layer 30 (model): the program: a request ends, in one's own memory. -/
namespace Go.Proofs.Ytclbihcggjjgaaa
open Go Go.RowKit
set_option linter.unusedSimpArgs false
set_option linter.unusedVariables false

/-- .. with a value that is new -/
def EStV (By0 : Nat → Prop) (lo R : Nat) (B : Option Addr) (d : Nat) (s : Ys × List GoTy.T) (v : List UInt8) (u : Value) (w w' : World) : Prop :=
  ∃ By : Nat → Prop, (∀ b, By0 b → By b) ∧ (∀ b, By b → NewB lo w' b) ∧ Kp lo w w' ∧ MayS w' By lo R s.1 ∧ GoS w' By lo B d s.2 ∧ (∀ b, By0 b → w'.heap[b]? = w.heap[b]?) ∧ RdIn w' By (.sl .byte) v [u]
theorem ESt.val {By0 : Nat → Prop} {lo R : Nat} {B : Option Addr} {d : Nat} {s : Ys × List GoTy.T} {v : List UInt8} {u : Value} {w w' w'' : World} (h : ESt By0 lo R B d s w w') (hb : Below w'.heap.size w' w'') (hlo : lo ≤ w'.heap.size) (hr : RdIn w'' (NewB w'.heap.size w'') (.sl .byte) v [u]) : EStV By0 lo R B d s v u w w'' := by
  obtain ⟨By, h1, h2, h3, h4, h5, h6⟩ := h
  have hlt : ∀ b, By b → b < w'.heap.size := fun b hb => (h2 b hb).2.1
  have hn : ∀ b, b < w'.heap.size → (By b ∨ NewB w'.heap.size w'' b) → By b := fun b hb h => h.elim id (fun h => by have := h.1; omega)
  refine ⟨fun b => By b ∨ NewB w'.heap.size w'' b, fun b hb => .inl (h1 b hb), fun b hB => ?_, h3.trans (Kp.of_below hb hlo), h4.mono hb hlt (fun _ h => .inl h) hn, h5.mono hb hlt (fun _ h => .inl h) hn, fun b hB => (hb.block b (hlt b (h1 b hB))).trans (h6 b hB), hr.mono fun b hb => .inr hb⟩
  rcases hB with hB | hB
  · exact newB_next (h2 b hB) hb.size (hb.block b (hlt b hB))
  · exact ⟨by have := hB.1; omega, hB.2⟩
theorem EStV.next {By0 : Nat → Prop} {lo R : Nat} {B : Option Addr} {d : Nat} {s : Ys × List GoTy.T} {v : List UInt8} {u : Value} {w w' w'' : World} (h : EStV By0 lo R B d s v u w w') (hb : Below w'.heap.size w' w'') (hlo : lo ≤ w'.heap.size) : EStV By0 lo R B d s v u w w'' := by
  obtain ⟨By, h1, h2, h3, h4, h5, h6, h7⟩ := h
  have hlt : ∀ b, By b → b < w'.heap.size := fun b hb => (h2 b hb).2.1
  exact ⟨By, h1, fun b hB => newB_next (h2 b hB) hb.size (hb.block b (hlt b hB)), h3.trans (Kp.of_below hb hlo), h4.mono hb hlt (fun _ h => h) (fun _ _ h => h), h5.mono hb hlt (fun _ h => h) (fun _ _ h => h), fun b hB => (hb.block b (hlt b (h1 b hB))).trans (h6 b hB), h7.below hb⟩
/-- the value comes behind a block's -/
theorem EStV.push {By0 : Nat → Prop} {lo R : Nat} {B : Option Addr} {d : Nat} {s : Ys × List GoTy.T} {v : List UInt8} {u : Value} {w w1 : World} (h : EStV By0 lo R B d s v u w w1) {b : Nat} (hb : b < s.1.length) :
    ∃ g o c, w1.cell? ⟨R, b, none⟩ = some (.slice (some ⟨g, o, none⟩) (s.1[b]).length c) ∧ ∃ By : Nat → Prop, RowS w1 By lo g o c s.1[b] ∧ RdIn w1 By (.sl .byte) v [u] ∧ (∀ b, By b → b < w1.heap.size) ∧
      ∀ w2 g' o' c', RowS w2 By lo g' o' c' (s.1[b] ++ [v]) → (g' = g ∨ w1.heap.size ≤ g') → w1.grownBy w2 (some g) → ∃ cs : Array Value, BoxOf w2 R cs 30 ∧ b < cs.size ∧
        ESt By0 lo R B d (pushY b v s.1, s.2) w (w2.setCell ⟨R, b, none⟩ (.slice (some ⟨g', o', none⟩) ((s.1[b]).length + 1) c')) ∧ Kp lo w1 (w2.setCell ⟨R, b, none⟩ (.slice (some ⟨g', o', none⟩) ((s.1[b]).length + 1) c')) := by
  obtain ⟨By, h1, h2, h3, h4, h5, h6, h7⟩ := h
  obtain ⟨cells, g, o, c, q1, q2, q3, q4, q5⟩ := h4.row hb
  have hlt : ∀ b, By b → b < w1.heap.size := fun b hb => (h2 b hb).2.1
  refine ⟨g, o, c, by rw [q1.cell]; exact q3, By, q4, h7, hlt, fun w2 g' o' c' hrow hg' hgr => ?_⟩
  obtain ⟨cur, k1, k2, k3, k4, k5, k6⟩ := q4
  have hgR : g ≠ R := box_diff k1 q1 (by decide)
  have r1 : BoxOf w2 R cells 30 := q1.grown hgr (fun e => hgR (Option.some.inj e))
  have hbc : b < cells.size := by have := (List.getElem?_eq_some_iff.1 q3).1; rwa [Array.length_toList] at this
  have hf : ∀ k, k < w1.heap.size → k ≠ R → k ≠ g → (w2.setCell ⟨R, b, none⟩ (.slice (some ⟨g', o', none⟩) ((s.1[b]).length + 1) c')).heap[k]? = w1.heap[k]? := fun k hk h1 h2 =>
    (Below.heap_setCell _ _ _ _ h1).trans (hgr.block k hk (fun e => h2 (Option.some.inj e)))
  have hB2 : ∀ k, By k → (w2.setCell ⟨R, b, none⟩ (.slice (some ⟨g', o', none⟩) ((s.1[b]).length + 1) c')).heap[k]? = w1.heap[k]? := fun k hk => hf k (hlt k hk) (fun e => q2.2 (e ▸ hk)) (fun e => k5.2 (e ▸ hk))
  have hs := msize w2 ⟨R, b, none⟩ (.slice (some ⟨g', o', none⟩) ((s.1[b]).length + 1) c')
  have hsz : w1.heap.size ≤ (w2.setCell ⟨R, b, none⟩ (.slice (some ⟨g', o', none⟩) ((s.1[b]).length + 1) c')).heap.size := by rw [hs]; exact hgr.size
  have kp : Kp lo w1 (w2.setCell ⟨R, b, none⟩ (.slice (some ⟨g', o', none⟩) ((s.1[b]).length + 1) c')) := by
    refine ⟨⟨hgr.os, hgr.tape, hgr.output, hsz, fun k hk => ?_⟩, fun k cs t h1 h2 h3 h4 => ?_⟩
    · by_cases hk2 : k < w1.heap.size
      · exact hf k hk2 (fun e => by have := q2.1; omega) (fun e => by have := k5.1; omega)
      · have := q1.lt
        have := q2.1
        omega
    · exact BoxOf.but (BoxOf.but h1 (But.grown k1 hgr) h3) (But.setCell r1 _) h2
  refine ⟨cells, r1, hbc, ⟨By, h1, fun k hk => newB_next (h2 k hk) hsz (hB2 k hk), h3.trans kp, ?_, ?_, fun k hk => (hB2 k (h1 k hk)).trans (h6 k hk)⟩, kp⟩
  · have e1 : pushY b v s.1 = s.1.set b (s.1[b] ++ [v]) := by unfold pushY; rw [getD_lt hb]
    rw [e1]
    refine q5 _ By g' o' c' (s.1[b] ++ [v]) (fun k hk h1 h2 => hf k hk h1 h2) ?_ ?_ hg' (fun k hk => ⟨hlt k hk, hk⟩) (fun k _ h => h)
    · rw [List.length_append, List.length_singleton]
      exact mbox_self r1 b _
    · obtain ⟨cur', d1, d2, d3, d4, d5, d6⟩ := hrow
      have hgR' : g' ≠ R := box_diff d1 r1 (by decide)
      refine RowS.frame ⟨cur', d1, d2, d3, d4, d5, d6⟩ (Below.heap_setCell _ _ _ _ hgR') (fun k hk => Below.heap_setCell _ _ _ _ (fun e => q2.2 (by have e' : k = R := e; exact e' ▸ hk))) (fun _ h => h) d5.2
  · have g1 : GoS w2 By lo B d s.2 := h5.but (t := 29) (by decide) (by decide) (But.grown k1 hgr) (fun k hk => hgr.block k (hlt k hk) (fun e => k5.2 ((Option.some.inj e) ▸ hk))) (fun _ h => h) (fun _ _ h => h)
    exact g1.but (t := 30) (by decide) (by decide) (But.setCell r1 _) (fun k hk => Below.heap_setCell _ _ _ _ (fun e => q2.2 (by have e' : k = R := e; exact e' ▸ hk))) (fun _ h => h) (fun _ _ h => h)
/-- the length of a block's row -/
theorem MayS.cell {w : World} {By : Nat → Prop} {lo R : Nat} {ys : Ys} (h : MayS w By lo R ys) {b : Nat} (hb : b < ys.length) : ∃ g o c, w.cell? ⟨R, b, none⟩ = some (.slice (some ⟨g, o, none⟩) (ys[b]).length c) := by
  obtain ⟨cells, g, o, c, q1, q2, q3, _⟩ := h.row hb
  exact ⟨g, o, c, by rw [q1.cell]; exact q3⟩
/-- a block's value -/
theorem MayS.last {w : World} {By : Nat → Prop} {lo R : Nat} {ys : Ys} (h : MayS w By lo R ys) {b : Nat} (hb : b < ys.length) (h0 : 0 < (ys[b]).length) : ∃ g o c A' c', w.cell? ⟨R, b, none⟩ = some (.slice (some ⟨g, o, none⟩) (ys[b]).length c) ∧ w.cell? ⟨g, o + ((ys[b]).length - 1), none⟩ = some (.slice A' ((ys.getD b []).getLastD []).length c') ∧ RdIn w By (.sl .byte) ((ys.getD b []).getLastD []) [.slice A' ((ys.getD b []).getLastD []).length c'] := by
  obtain ⟨cells, g, o, c, q1, q2, q3, ⟨cur, k1, k2, k3, k4, k5, k6⟩, _⟩ := h.row hb
  obtain ⟨u, e1, e2⟩ := k6 ((ys[b]).length - 1) (by omega)
  have e3 : (ys.getD b []).getLastD [] = (ys[b])[(ys[b]).length - 1] := by
    rw [getD_lt hb, List.getLastD_eq_getLast?, List.getLast?_eq_getElem?, List.getElem?_eq_getElem (by omega)]
    rfl
  obtain ⟨A', c', rfl, _⟩ := e2.bytes
  refine ⟨g, o, c, A', c', by rw [q1.cell]; exact q3, ?_, ?_⟩
  · rw [k1.cell, e1, e3]
  · rw [e3]; exact e2

/-! ### what a read tells -/
def readS (s : Ys × List GoTy.T) (a : Nat) : Nat → List UInt8
  | 0 => []
  | i + 1 => readS s a i ++ (s.1.getD (a + i) []).getLastD []
theorem endS_read {k : Int} (hk : kWrites k = false) (bs : List UInt8) (a : Nat) (s : Ys × List GoTy.T) : ∀ i, endS k bs a i s = some (s, readS s a i)
  | 0 => rfl
  | i + 1 => by
    show (endS k bs a i s).bind (stepS k bs a i) = _
    rw [endS_read hk bs a s i]
    show stepS k bs a i (s, readS s a i) = _
    unfold stepS
    rw [hk]
    rfl
theorem endS_write {k : Int} (hk : kWrites k = true) (bs : List UInt8) (a : Nat) (s : Ys × List GoTy.T) : ∀ i t, endS k bs a i s = some t → t.2 = []
  | 0, t, ht => by obtain rfl := Option.some.inj ht; rfl
  | i + 1, t, ht => by
    obtain ⟨t', h1, h2⟩ := Option.bind_eq_some_iff.1 (show (endS k bs a i s).bind (stepS k bs a i) = some t from ht)
    have := endS_write hk bs a s i t' h1
    unfold stepS at h2
    rw [if_pos hk] at h2
    split at h2
    · cases h2
    · obtain rfl := Option.some.inj h2
      exact this
theorem endS_none {k : Int} {bs : List UInt8} {a : Nat} {s : Ys × List GoTy.T} {i : Nat} (h : endS k bs a i s = none) : ∀ j, i ≤ j → endS k bs a j s = none
  | 0, hj => by have : i = 0 := by omega
                subst this
                exact h
  | j + 1, hj => by
    by_cases e : i = j + 1
    · rw [← e]; exact h
    · show (endS k bs a j s).bind (stepS k bs a j) = none
      rw [endS_none h j (by omega)]
      rfl
/-- what 'end' answers -/
def SendIs (By : Nat → Prop) (lo R : Nat) (B : Option Addr) (d : Nat) (r : Option ((Ys × List GoTy.T) × List UInt8)) (e : Ending) (w w' : World) : Prop :=
  (r = none ∧ e = .returned (.tuple #[.slice none 0 0, .bool false])) ∨ ∃ t dat D q, r = some (t, dat) ∧ e = .returned (.tuple #[.slice D dat.length q, .bool true]) ∧ RdIn w' (NewB lo w') (.sl .byte) dat [.slice D dat.length q] ∧ ESt By lo R B d t w w'
end Go.Proofs.Ytclbihcggjjgaaa
/- Layer 30 (model): the program: a request ends, in one's own memory: the walk. -/
namespace Go.Proofs.Ytclbihcggjjgaaa
open Go Go.RowKit
set_option linter.unusedSimpArgs false
set_option linter.unusedVariables false

set_option maxRecDepth 100000 in
set_option maxHeartbeats 1000000 in
theorem send_any (x : Cfg) (By : Nat → Prop) (lo R cR : Nat) (B : Option Addr) (d : Nat) (s : Ys × List GoTy.T) (pb : Nat) (nu : Int) (ki : UInt8) (a y : Nat) (bs : List UInt8) (ms : List Int) (Ab : Option Addr) (cb : Nat) (Am : Option Addr) (cm : Nat) (w : World)
    (hP : BoxOf w pb #[.slice (some ⟨R, 0, none⟩) s.1.length cR, .slice B s.2.length d] 28) (hM : MayS w By lo R s.1) (hG : GoS w By lo B d s.2) (hBy : ∀ b, By b → NewB lo w b) (hlo : lo ≤ w.heap.size) (hok : PlainOk x s.1 s.2) (hy : y ≤ 8) (hay : a + y ≤ s.1.length) (hbs : kBytes (ki.toNat : Int) = true → y * 128 ≤ bs.length)
    (hml : ms.length ≤ s.1.length) (hmk : ∀ q (hq : q < ms.length), ∃ hq' : q < s.1.length, 0 ≤ ms[q] ∧ ms[q] < ((s.1[q]).length : Int)) (hd : RdIn w By (.sl .byte) bs [.slice Ab bs.length cb]) (hm : RdIn w By (.sl .int) ms [.slice Am ms.length cm]) :
    Calls Try.prog 59 #[.pointer (some ⟨pb, 0, none⟩), .agg #[.int .i64 nu, .int .u8 (ki.toNat : Int), .int .i64 (a : Int), .int .i64 (y : Int), .slice Ab bs.length cb, .slice Am ms.length cm]] w fun e w' => SendIs By lo R B d (endS (ki.toNat : Int) bs a y (marksS ms ms.length s)) e w w' ∧ Kp lo w w' := by
  have HES := Lib.hid (ESt.start hM hG hBy)
  have HMS := Lib.hid (marksS_ok hok hml hmk)
  have HMK := Lib.hid hmk
  have HML := Lib.hid hml
  have HOK := Lib.hid hok
  have HYS := Lib.hid hok.short
  have HAY := Lib.hid (And.intro hy hay)
  have HBS := Lib.hid hbs
  have HD := Lib.hid hd
  have HM := Lib.hid hm
  have HLO := Lib.hid hlo
  have HBY := Lib.hid hBy
  have HMX := Lib.hid (mark_max hm)
  clear hM hG hBy hok hml hmk hy hay hbs hd hm hlo
  have X0 := BoxOf.new w #[.int .i64 nu, .int .u8 (ki.toNat : Int), .int .i64 (a : Int), .int .i64 (y : Int), .slice Ab bs.length cb, .slice Am ms.length cm] 64
  have t0 := Ext.alloc (Below.refl w.heap.size w) (.cells #[.int .i64 nu, .int .u8 (ki.toNat : Int), .int .i64 (a : Int), .int .i64 (y : Int), .slice Ab bs.length cb, .slice Am ms.length cm] 64)
  have P0 := hP.next t0
  go_enter Try.func59, Try.ntmps59
  go_upto_region 1 with fail
  have HE0 := Lib.hid (HES.out.next t0 HLO.out)
  have HKP := Lib.hid (Kp.of_below (lo := lo) t0 HLO.out)
  have HT0 := Lib.hid t0
  obtain ⟨il, hil, hl0, hl1, hl2⟩ := minfo_bytes
  obtain ⟨gx, hgx⟩ : ∃ z : Nat, z = w.heap.size := ⟨_, rfl⟩
  rw [← hgx] at X0 ⊢
  have HGX := Lib.hid hgx
  clear hgx t0
  generalize w.alloc (.cells #[.int .i64 nu, .int .u8 (ki.toNat : Int), .int .i64 (a : Int), .int .i64 (y : Int), .slice Ab bs.length cb, .slice Am ms.length cm] 64) = W at *
  have x0 := X0.cell
  go_wp2
  go_loopw [16] (fun i wr => ∃ (j : Nat), j ≤ ms.length ∧ i = .int .i64 j ∧ ESt By lo R B d (marksS ms j s) w wr ∧ Kp lo W wr) (fun i _ => ms.length - (intOf i).toNat)
  case atStart => exact ⟨0, by omega, rfl, HE0.out, Kp.refl _ _⟩
  case round =>
    obtain ⟨j, hj, rfl, hE, hK⟩ := hrel
    by_cases hlt : j < ms.length
    · have hmr : RdIn wr By (.sl .int) ms [.slice Am ms.length cm] := by
        obtain ⟨By', h1, h2, h3, h4, h5, h6⟩ := hE
        exact HM.out.frame h6
      obtain ⟨mb, mo, rfl, m1, m2⟩ := mark_at hmr hlt
      obtain ⟨hq', m3, m4⟩ := HMK.out j hlt
      obtain ⟨k1, k2, k3, k4, k5⟩ := HMS.out j hj
      have hjs : j < (marksS ms j s).1.length := by rw [k2]; exact hq'
      have e1 : (marksS ms j s).1[j] = s.1[j] := by rw [← getD_lt hjs, k4 j (Nat.le_refl _), getD_lt hq']
      have e2 : ms.getD j 0 = ms[j] := by rw [List.getD_eq_getElem?_getD, List.getElem?_eq_getElem hlt]; rfl
      obtain ⟨mn, hmn⟩ : ∃ mn : Nat, ms[j] = (mn : Int) := ⟨(ms[j]).toNat, by omega⟩
      have hPr := (hK.box _ _ _ P0 (by decide) (by decide) (by decide))
      have HST : Hid (marksS ms (j + 1) s = dropS j mn (marksS ms j s)) := by
        show dropS j (ms.getD j 0).toNat (marksS ms j s) = _
        rw [e2, hmn, Int.toNat_natCast]
      have hrow := (HOK.out.row hq').2.1
      have hsz := hE
      have hlr : lo ≤ wr.heap.size := by have := hK.below.size; have := HT0.out.size; have := HLO.out; omega
      have hPr' : BoxOf wr pb #[.slice (some ⟨R, 0, none⟩) (marksS ms j s).1.length cR, .slice B (marksS ms j s).2.length d] 28 := by rw [k2, k3]; exact hPr
      have HC := Lib.hid (sdrop_est hE hlr hPr' k1.fits hjs (many := mn) (by rw [e1]; rw [hmn] at m4; omega))
      have HWJ := next_wrap HMX.out hlt
      have HLJ := Lib.hid hlt
      have HKR := Lib.hid hK
      rw [hmn] at m1
      clear hE hK hmr m2 m3 m4 k1 k2 k3 k4 k5 e1 e2 hmn hPr hPr' hrow hsz hq' hjs hj hlt
      go_wp2_with fail
      refine HC.out.mono ?_
      rintro e w2 ⟨⟨v, rfl⟩, hE2, hK2⟩
      have HE2 := Lib.hid (hE2.cast HST.out.symm)
      have HK2 := Lib.hid (HKR.out.trans hK2)
      clear hE2 hK2 m1
      go_wp2
      go_roundw
      case rel => exact ⟨j + 1, HLJ.out, by first | exact round_same HWJ | go_num, HE2.out, HK2.out⟩
      case measure => first | exact round_less HWJ HLJ.out | (have h := HLJ.out; simp [intOf]; omega)
    · have hjl : j = ms.length := by omega
      have HJL := Lib.hid hjl
      have hok1 := (HMS.out ms.length (Nat.le_refl _)).1
      have hlen1 := (HMS.out ms.length (Nat.le_refl _)).2.1
      have hlen2 := (HMS.out ms.length (Nat.le_refl _)).2.2.1
      rw [hjl] at hE
      have hX1 := hK.box _ _ _ X0 (by decide) (by decide) (by decide)
      have hP1 := hK.box _ _ _ P0 (by decide) (by decide) (by decide)
      have hPr : BoxOf wr pb #[.slice (some ⟨R, 0, none⟩) (marksS ms ms.length s).1.length cR, .slice B (marksS ms ms.length s).2.length d] 28 := by rw [hlen1, hlen2]; exact hP1
      have hlr : lo ≤ wr.heap.size := by have := hK.below.size; have := HT0.out.size; have := HLO.out; omega
      have hbsr : RdIn wr By (.sl .byte) bs [.slice Ab bs.length cb] := by
        obtain ⟨By', h1, h2, h3, h4, h5, h6⟩ := hE
        exact HD.out.frame h6
      have HA1 : Hid (a + y ≤ (marksS ms ms.length s).1.length) := by show _ ≤ _; rw [hlen1]; exact HAY.out.2
      have HOK1 := Lib.hid hok1
      have HE1 := Lib.hid hE
      have HK1 := Lib.hid (HKP.out.trans hK)
      have HPR := Lib.hid hPr
      have HLR := Lib.hid hlr
      have HBR := Lib.hid hbsr
      generalize hs1 : marksS ms ms.length s = s1 at *
      have HS1 := Lib.hid hs1
      clear hs1
      clear hok1 hlen1 hlen2 hE hP1 hlr hbsr hjl hK HMS HES HE0
      have x1 := hX1.cell
      rcases Bool.eq_false_or_eq_true (kWrites (ki.toNat : Int)) with hkw | hkw
      · have HKW := Lib.hid hkw
        clear hkw
        go_wp2
        clear hlt hj x1 hPr
        go_loopw [4, 29] (fun dv i w2 => ∃ (q : Nat) (t : Ys × List GoTy.T), q ≤ y ∧ i = .int .i64 q ∧ dv = .slice none 0 0 ∧ Hid (endS (ki.toNat : Int) bs a q s1 = some (t, [])) ∧ ESt By lo R B d t w w2 ∧ BoxOf w2 gx #[.int .i64 nu, .int .u8 (ki.toNat : Int), .int .i64 (a : Int), .int .i64 (y : Int), .slice Ab bs.length cb, .slice Am ms.length cm] 64 ∧ BoxOf w2 pb #[.slice (some ⟨R, 0, none⟩) t.1.length cR, .slice B t.2.length d] 28 ∧ Kp lo w w2) (fun _ i _ => y - (intOf i).toNat)
        case atStart => exact ⟨0, s1, by omega, rfl, rfl, rfl, HE1.out, hX1, HPR.out, HK1.out⟩
        case round =>
          obtain ⟨q, t, hq, rfl, rfl, hen, hEt, hXt, hPt, hKt⟩ := hrel
          clear hX1
          by_cases hqy : q < y
          · obtain ⟨hokt, hlt1, hlt2⟩ := endS_ok HOK1.out HA1.out HBS.out q (by omega) _ hen.out
            have hb : a + q < t.1.length := by have := HA1.out; rw [hlt1]; omega
            have hlr : lo ≤ wr.heap.size := by have := hKt.below.size; have := HLO.out; omega
            have hbr : RdIn wr By (.sl .byte) bs [.slice Ab bs.length cb] := by
              obtain ⟨By', h1, h2, h3, h4, h5, h6⟩ := hEt
              exact HD.out.frame h6
            have hsw := swrites_any By (ki.toNat : Int) (a : Int) (y : Int) bs Ab cb q wr hbr (fun hk => by have := HBS.out hk; omega) (by have := HAY.out.1; omega)
            have HSW := Lib.hid hsw
            have HWB : Hid (wrap64 ((a : Int) + (q : Int)) = ((a + q : Nat) : Int)) := by
              show _ = _
              have := HYS.out
              have := HAY.out.2
              rw [IntWalk.wrap64_in _ (by omega)]
              rfl
            have hwb := HWB.out
            have HQL := Lib.hid hqy
            have HEN := Lib.hid hen
            have HOKT := Lib.hid hokt
            have HB := Lib.hid hb
            have HLR2 := Lib.hid hlr
            have HET := Lib.hid hEt
            have HKT := Lib.hid hKt
            have xt := hXt.cell
            have pt := hPt.cell
            clear hsw hen hokt hlt1 hlt2 hEt hKt hbr hlr
            go_wp2_with fail
            refine HSW.out.mono ?_
            rintro e w2 ⟨⟨D, n, c2, rfl, hbl⟩, b2⟩
            have HV := Lib.hid (HET.out.val b2 HLR2.out (hbl HKW.out))
            have hXt2 := hXt.next b2
            have hPt2 := hPt.next b2
            have HKT2 := Lib.hid (HKT.out.trans (Kp.of_below b2 HLR2.out))
            have HB2 := Lib.hid b2
            have HLR3 : Hid (lo ≤ w2.heap.size) := Nat.le_trans HLR2.out b2.size
            rw [HKW.out]
            clear hbl b2 xt pt hXt hPt
            go_upto_region 14 with fail
            have b3 := Ext.alloc (Below.refl w2.heap.size w2) (.cells #[.slice D n c2] 29)
            have HV3 := HV.out.next b3 HLR3.out
            obtain ⟨g, o, c, v0, By', v1, v2, v3, v4⟩ := HV3.push hb
            have hR2 : R < w2.heap.size := by
              obtain ⟨By2, _, _, _, h4, _⟩ := HV.out
              exact h4.lt
            have v5 : w2.cell? ⟨R, a + q, none⟩ = some (.slice (some ⟨g, o, none⟩) (t.1[a + q]'hb).length c) := by
              rw [← v0]; exact (b3.cell (p := ⟨R, a + q, none⟩) hR2).symm
            have HZL : Hid ((t.1[a + q]'hb).length ≤ 512) := (HOKT.out.row hb).2.1
            have e0 : t.1.getD (a + q) [] = t.1[a + q]'hb := getD_lt hb
            have HE0' := Lib.hid e0
            have HV1 := Lib.hid v1
            have HV2 := Lib.hid v2
            have HV3' := Lib.hid v3
            have HV4 := Lib.hid v4
            have HLR4 : Hid (lo ≤ (w2.alloc (.cells #[.slice D n c2] 29)).heap.size) := Nat.le_trans HLR3.out b3.size
            have hXt3 := hXt2.next b3
            have hPt3 := hPt2.next b3
            have HK3 := Lib.hid (HKT2.out.trans (Kp.of_below b3 HLR3.out))
            have hq3 : (w2.alloc (.cells #[.slice D n c2] 29)).cell? ⟨w2.heap.size, 0, none⟩ = some (.slice D n c2) := (BoxOf.new w2 #[.slice D n c2] 29).cell 0
            generalize t.1[a + q]'hb = zs at *
            clear v0 v1 v2 v3 v4 e0 HV HV3 hXt2 hPt2 b3 hR2
            go_upto_region 15 with (at_builtin; refine wpList_pushS rfl (.tmp 67) (.tmp 69) 30 rfl il _ Try.underlying30 hil hl0 hl1 hl2 rfl By' lo g o c zs HV1.out rfl w2.heap.size 1 _ rfl hq3 _ HV2.out HV3'.out (by have := HZL.out; omega) HLR4.out ?_; intro w4 g4 o4 c4 hrow4 hg4 hgr4; obtain ⟨cs4, r4, hb4, hE4, hK4⟩ := HV4.out w4 g4 o4 c4 hrow4 hg4 hgr4; have rf4 := r4.free; have rc4 : w4.cell? ⟨R, a + q, none⟩ = some (cs4[a + q]'hb4) := (by rw [r4.cell, List.getElem?_eq_getElem (by rw [Array.length_toList]; exact hb4)]; rfl); have HE4 := Lib.hid hE4; have HK4 := Lib.hid (HK3.out.trans hK4); have hXt4 := hK4.box _ _ _ hXt3 (by decide) (by decide) (by decide); have hPt4 := hK4.box _ _ _ hPt3 (by decide) (by decide) (by decide); generalize cs4[a + q]'hb4 = old4 at rc4; clear hE4 hK4 hrow4 hg4 hgr4 r4 hb4 hq3)
            generalize w4.setCell ⟨R, a + q, none⟩ (.slice (some ⟨g4, o4, none⟩) (zs.length + 1) c4) = w5 at *
            clear rf4 rc4 HV1 HV2 HV3' HV4 HLR4 HK3 hXt3 hPt3 v5 HET HKT HKT2
            have hlr5 : lo ≤ w5.heap.size := by have := HK4.out.below.size; have := HLO.out; omega
            have hlp : (pushY (a + q) (blk (ki.toNat : Int) bs q) t.1).length = t.1.length := List.length_set
            have hbp : a + q < (pushY (a + q) (blk (ki.toNat : Int) bs q) t.1).length := by rw [hlp]; exact hb
            have hgp : (pushY (a + q) (blk (ki.toNat : Int) bs q) t.1)[a + q]'hbp = zs ++ [blk (ki.toNat : Int) bs q] := by
              have e1 : (pushY (a + q) (blk (ki.toNat : Int) bs q) t.1)[a + q]? = some (t.1.getD (a + q) [] ++ [blk (ki.toNat : Int) bs q]) := List.getElem?_set_self hb
              rw [HE0'.out, List.getElem?_eq_getElem hbp] at e1
              exact Option.some.inj e1
            have x4 := hXt4.cell
            have HWJ := next_wrap (show y ≤ maxLen by have := HAY.out.1; unfold maxLen; omega) hqy
            by_cases hk3 : (ki.toNat : Int) = 3
            · have e3 : ((ki.toNat : Int) == 3) = true := by rw [hk3]; rfl
              have hm5 : ∃ g o c, w5.cell? ⟨R, a + q, none⟩ = some (.slice (some ⟨g, o, none⟩) (zs.length + 1) c) := by
                obtain ⟨By2, _, _, _, h4, _⟩ := HE4.out
                obtain ⟨g, o, c, h⟩ := h4.cell hbp
                rw [hgp, List.length_append, List.length_singleton] at h
                exact ⟨g, o, c, h⟩
              obtain ⟨g5, o5, c5, m5⟩ := hm5
              have HDR := Lib.hid (sdrop_est (cR := cR) (pb := pb) (many := zs.length) HE4.out hlr5 (by rw [show (pushY (a + q) (blk (ki.toNat : Int) bs q) t.1, t.2).1.length = t.1.length from hlp]; exact hPt4) ⟨HOKT.out.few, by rw [show (pushY (a + q) (blk (ki.toNat : Int) bs q) t.1, t.2).1.length = t.1.length from hlp]; exact HOKT.out.short, by rw [show (pushY (a + q) (blk (ki.toNat : Int) bs q) t.1, t.2).1.length = t.1.length from hlp]; exact HOKT.out.fits.2.2⟩ hbp ⟨by rw [show (pushY (a + q) (blk (ki.toNat : Int) bs q) t.1, t.2).1[a + q]'hbp = _ from hgp, List.length_append]; omega, by have := HZL.out; omega⟩)
              have e6 : wrap64 (zs.length : Int) = (zs.length : Int) := by have := HZL.out; exact IntWalk.wrap64_in _ (by omega)
              have HK3 := Lib.hid hk3
              clear hk3 hgp hbp hlp
              go_wp2_with fail
              refine HDR.out.mono ?_
              rintro e w6 ⟨⟨vv, rfl⟩, hE6, hK6⟩
              have HE6 : Hid (ESt By lo R B d (putS (ki.toNat : Int) (a + q) (blk (ki.toNat : Int) bs q) t) w w6) := by
                refine hE6.cast ?_
                unfold putS
                rw [if_pos HK3.out, HE0'.out]
                congr 1
                rw [List.length_append, List.length_singleton]
                omega
              have hX6 := hK6.box _ _ _ hXt4 (by decide) (by decide) (by decide)
              have hP6 := hK6.box _ _ _ hPt4 (by decide) (by decide) (by decide)
              have HK6 := Lib.hid (HK4.out.trans hK6)
              clear hE6 hK6 x4 m5 hXt4 hPt4 HDR hlr5
              have HLT6 : Hid ((putS (ki.toNat : Int) (a + q) (blk (ki.toNat : Int) bs q) t).1.length = t.1.length ∧ (putS (ki.toNat : Int) (a + q) (blk (ki.toNat : Int) bs q) t).2.length = t.2.length) := putS_len _ _ _ _
              have HST6 : Hid (endS (ki.toNat : Int) bs a (q + 1) s1 = if 512 < ((putS (ki.toNat : Int) (a + q) (blk (ki.toNat : Int) bs q) t).1.getD (a + q) []).length then none else some (putS (ki.toNat : Int) (a + q) (blk (ki.toNat : Int) bs q) t, [])) := by
                show (endS (ki.toNat : Int) bs a q s1).bind (stepS (ki.toNat : Int) bs a q) = _
                rw [HEN.out]
                show stepS (ki.toNat : Int) bs a q (t, []) = _
                unfold stepS
                rw [if_pos HKW.out]
              generalize putS (ki.toNat : Int) (a + q) (blk (ki.toNat : Int) bs q) t = t6 at *
              have hb6 : a + q < t6.1.length := by rw [HLT6.out.1]; exact HB.out
              have hm6 : ∃ g o c, w6.cell? ⟨R, a + q, none⟩ = some (.slice (some ⟨g, o, none⟩) (t6.1.getD (a + q) []).length c) := by
                obtain ⟨By2, _, _, _, h4, _⟩ := HE6.out
                obtain ⟨g, o, c, h⟩ := h4.cell hb6
                rw [getD_lt hb6]
                exact ⟨g, o, c, h⟩
              obtain ⟨g6, o6, c6, m6⟩ := hm6
              generalize (t6.1.getD (a + q) []).length = L6 at *
              clear hb6
              rcases Bool.eq_false_or_eq_true (decide ((512 : Int) < (L6 : Int))) with e6 | e6
              · have HBIG : Hid (512 < L6) := by have := of_decide_eq_true e6; show _ < _; omega
                have e6' : decide (512 < L6) = true := decide_eq_true HBIG.out
                go_wp2
                go_ret2
                refine ⟨.inl ⟨?_, rfl⟩, HK6.out⟩
                rw [HS1.out]
                refine endS_none (i := q + 1) ?_ y HQL.out
                rw [HST6.out, if_pos HBIG.out]
              · have HSML : Hid (¬ 512 < L6) := by have := of_decide_eq_false e6; show ¬ _; omega
                have e6' : decide (512 < L6) = false := decide_eq_false HSML.out
                go_wp2
                have HEQ : Hid (endS (ki.toNat : Int) bs a (q + 1) s1 = some (t6, [])) := by
                  show _ = _
                  rw [HST6.out, if_neg HSML.out]
                go_roundw
                case rel => exact ⟨q + 1, t6, HQL.out, by first | exact round_same HWJ | go_num, rfl, HEQ, HE6.out, hX6, by rw [HLT6.out.1, HLT6.out.2]; exact hP6, HK6.out⟩
                case measure => first | exact round_less HWJ HQL.out | (have h := HQL.out; simp [intOf]; omega)
            · have e3 : ((ki.toNat : Int) == 3) = false := by simpa using hk3
              have HE6 : Hid (ESt By lo R B d (putS (ki.toNat : Int) (a + q) (blk (ki.toNat : Int) bs q) t) w w5) := by
                refine HE4.out.cast ?_
                unfold putS
                rw [if_neg hk3]
              have HK3 := Lib.hid hk3
              clear hk3 hgp hbp hlp HE4
              obtain ⟨w6, hw6⟩ : ∃ z : World, z = w5 := ⟨_, rfl⟩
              rw [← hw6] at HE6 x4 hXt4 hPt4 HK4 ⊢
              clear hw6
              have hX6 := hXt4
              have hP6 := hPt4
              have HK6 := HK4
              have HLT6 : Hid ((putS (ki.toNat : Int) (a + q) (blk (ki.toNat : Int) bs q) t).1.length = t.1.length ∧ (putS (ki.toNat : Int) (a + q) (blk (ki.toNat : Int) bs q) t).2.length = t.2.length) := putS_len _ _ _ _
              have HST6 : Hid (endS (ki.toNat : Int) bs a (q + 1) s1 = if 512 < ((putS (ki.toNat : Int) (a + q) (blk (ki.toNat : Int) bs q) t).1.getD (a + q) []).length then none else some (putS (ki.toNat : Int) (a + q) (blk (ki.toNat : Int) bs q) t, [])) := by
                show (endS (ki.toNat : Int) bs a q s1).bind (stepS (ki.toNat : Int) bs a q) = _
                rw [HEN.out]
                show stepS (ki.toNat : Int) bs a q (t, []) = _
                unfold stepS
                rw [if_pos HKW.out]
              generalize putS (ki.toNat : Int) (a + q) (blk (ki.toNat : Int) bs q) t = t6 at *
              have hb6 : a + q < t6.1.length := by rw [HLT6.out.1]; exact HB.out
              have hm6 : ∃ g o c, w6.cell? ⟨R, a + q, none⟩ = some (.slice (some ⟨g, o, none⟩) (t6.1.getD (a + q) []).length c) := by
                obtain ⟨By2, _, _, _, h4, _⟩ := HE6.out
                obtain ⟨g, o, c, h⟩ := h4.cell hb6
                rw [getD_lt hb6]
                exact ⟨g, o, c, h⟩
              obtain ⟨g6, o6, c6, m6⟩ := hm6
              generalize (t6.1.getD (a + q) []).length = L6 at *
              clear hb6
              rcases Bool.eq_false_or_eq_true (decide ((512 : Int) < (L6 : Int))) with e6 | e6
              · have HBIG : Hid (512 < L6) := by have := of_decide_eq_true e6; show _ < _; omega
                have e6' : decide (512 < L6) = true := decide_eq_true HBIG.out
                go_wp2
                go_ret2
                refine ⟨.inl ⟨?_, rfl⟩, HK6.out⟩
                rw [HS1.out]
                refine endS_none (i := q + 1) ?_ y HQL.out
                rw [HST6.out, if_pos HBIG.out]
              · have HSML : Hid (¬ 512 < L6) := by have := of_decide_eq_false e6; show ¬ _; omega
                have e6' : decide (512 < L6) = false := decide_eq_false HSML.out
                go_wp2
                have HEQ : Hid (endS (ki.toNat : Int) bs a (q + 1) s1 = some (t6, [])) := by
                  show _ = _
                  rw [HST6.out, if_neg HSML.out]
                go_roundw
                case rel => exact ⟨q + 1, t6, HQL.out, by first | exact round_same HWJ | go_num, rfl, HEQ, HE6.out, hX6, by rw [HLT6.out.1, HLT6.out.2]; exact hP6, HK6.out⟩
                case measure => first | exact round_less HWJ HQL.out | (have h := HQL.out; simp [intOf]; omega)
          · have hqe : q = y := by omega
            have HENY : Hid (endS (ki.toNat : Int) bs a y s1 = some (t, [])) := by rw [← hqe]; exact hen.out
            have HEY := Lib.hid hEt
            have HKY := Lib.hid hKt
            clear hen hEt hXt hPt hKt hqe
            go_wp2
            go_ret2
            exact ⟨.inr ⟨t, [], none, 0, by rw [HS1.out]; exact HENY.out, rfl, rdin_nilb (by unfold maxLen; omega) _, HEY.out⟩, HKY.out⟩
      · have HKW := Lib.hid hkw
        clear hkw
        have HRD : Hid (∀ i, endS (ki.toNat : Int) bs a i s1 = some (s1, readS s1 a i)) := fun i => endS_read HKW.out bs a s1 i
        obtain ⟨iu, hu, hu0, hu1, hu2⟩ := minfo_u8
        obtain ⟨wo, rfl⟩ : ∃ z : World, z = wr := ⟨_, rfl⟩
        go_wp2
        clear hlt hj x1 hPr
        go_loopw [4, 29] (fun dv i w2 => ∃ (q : Nat), q ≤ y ∧ i = .int .i64 q ∧ Below wo.heap.size wo w2 ∧ w2.ownsRow wo.heap.size 5 1 dv (readS s1 a q).length ((readS s1 a q).map byteV) ∧ Hid ((readS s1 a q).length = 128 * q)) (fun _ i _ => y - (intOf i).toNat)
        case atStart => exact ⟨0, by omega, rfl, Below.refl _ _, ⟨rfl, .inl ⟨rfl, rfl⟩⟩, rfl⟩
        case round =>
          obtain ⟨q, hq, rfl, b2, own2, hrl⟩ := hrel
          by_cases hqy : q < y
          · have hb : a + q < s1.1.length := by have := HA1.out; omega
            obtain ⟨r1, r2, r3⟩ := HOK1.out.row hb
            obtain ⟨By2, z1, z2, z3, z4, z5, z6⟩ := HE1.out
            obtain ⟨g, o, c, A', c', m1, m2, m3⟩ := z4.last hb (by omega)
            have hgl : g < wo.heap.size := block_lt_of_cell m2
            have m4 : wr.cell? ⟨R, a + q, none⟩ = some (.slice (some ⟨g, o, none⟩) (s1.1[a + q]'hb).length c) := (b2.cell (p := ⟨R, a + q, none⟩) z4.lt).trans m1
            have m5 : wr.cell? ⟨g, o + ((s1.1[a + q]'hb).length - 1), none⟩ = some (.slice A' ((s1.1.getD (a + q) []).getLastD []).length c') := (b2.cell (p := ⟨g, o + ((s1.1[a + q]'hb).length - 1), none⟩) hgl).trans m2
            have HLA := Lib.hid (m3.below b2)
            have HST : Hid (readS s1 a (q + 1) = readS s1 a q ++ (s1.1.getD (a + q) []).getLastD []) := rfl
            have HL8 : Hid (((s1.1.getD (a + q) []).getLastD []).length = 128) := by
              show _ = _
              rw [getD_lt hb, List.getLastD_eq_getLast?, List.getLast?_eq_getElem?, List.getElem?_eq_getElem (by omega)]
              exact r3 _ _
            generalize (s1.1.getD (a + q) []).getLastD [] = lv at *
            have hbr : RdIn wr By (.sl .byte) bs [.slice Ab bs.length cb] := HBR.out.below b2
            have hsw := swrites_any By (ki.toNat : Int) (a : Int) (y : Int) bs Ab cb q wr hbr (fun hk => by have := HBS.out hk; omega) (by have := HAY.out.1; omega)
            have HSW := Lib.hid hsw
            have hwb : wrap64 ((a : Int) + (q : Int)) = ((a + q : Nat) : Int) := by
              have := HAY.out.2
              have := HYS.out
              rw [IntWalk.wrap64_in _ (by omega)]
              rfl
            have HQL := Lib.hid hqy
            have HN1 : Hid (1 ≤ (s1.1[a + q]'hb).length ∧ (s1.1[a + q]'hb).length ≤ 512) := ⟨r1, r2⟩
            clear r1 r2 r3 m3 z1 z2 z3 z4 z5 z6
            generalize (s1.1[a + q]'hb).length = n at *
            have xt := (hX1.next b2).cell
            have pt := (HPR.out.next b2).cell
            have HB2 := Lib.hid b2
            have HOW := Lib.hid own2
            have HM12 := Lib.hid (And.intro m1 m2)
            clear m1 m2
            clear hsw hbr hgl b2 own2
            go_wp2_with fail
            refine HSW.out.mono ?_
            rintro e w2 ⟨⟨D, nn, c2, rfl, hbl⟩, b3⟩
            rw [HKW.out]
            have hR2 : wr.cell? ⟨R, a + q, none⟩ = some (.slice (some ⟨g, o, none⟩) n c) := m4
            have k4 : w2.cell? ⟨R, a + q, none⟩ = some (.slice (some ⟨g, o, none⟩) n c) := (b3.cell (block_lt_of_cell m4)).trans m4
            have k5 : w2.cell? ⟨g, o + (n - 1), none⟩ = some (.slice A' lv.length c') := (b3.cell (block_lt_of_cell m5)).trans m5
            have HB3 := Lib.hid (Ext.trans HB2.out b3)
            have HOW3 := Lib.hid (own_next HOW.out b3)
            have HLA3 := Lib.hid (HLA.out.below b3)
            clear hbl b3 m4 m5 xt pt hR2 HB2 HOW HLA
            go_upto_region 13 with fail
            have e1 : IntKind.i64.wrap ((n : Int) - 1) = ((n - 1 : Nat) : Int) := by have := HN1.out; rw [i64_fit (by omega)]; omega
            have hn0 : n - 1 < n := by have := HN1.out; omega
            have d4 : w2.drew.cell? ⟨R, a + q, none⟩ = some (.slice (some ⟨g, o, none⟩) n c) := k4
            have d5 : w2.drew.cell? ⟨g, o + (n - 1), none⟩ = some (.slice A' lv.length c') := k5
            refine wp_region_held_drew (S := fun w' => w'.cell? ⟨R, a + q, none⟩ = some (.slice (some ⟨g, o, none⟩) n c) ∧ w'.cell? ⟨g, o + (n - 1), none⟩ = some (.slice A' lv.length c')) (by kernel_rfl) ⟨d4, d5⟩ (fun hS => ?_)
            clear k4 k5 d4 d5
            refine wpAnyH_take (i := 0) (oi := _) (v := ?_) rfl (by kernel_rfl) (by kernel_rfl) (by kernel_rfl) (fun _ _ _ h => h) (Or.inl ⟨by rfl, ?_⟩) hS ?_
            rotate_left
            · (intro w hSw; (try dsimp only at hSw); go_simp; (try with_reducible rfl))
            rotate_left
            simp only [Act.put, List.getElem_toArray, List.getElem_cons_zero, List.getElem_cons_succ, List.setIfInBounds_toArray, List.set_cons_zero, List.set_cons_succ]
            refine wpAnyH_take (i := 1) (oi := _) (v := ?_) rfl (by kernel_rfl) (by kernel_rfl) (by kernel_rfl) (fun _ _ _ h => h) (Or.inl ⟨by rfl, ?_⟩) hS ?_
            rotate_left
            · (intro w hSw; (try dsimp only at hSw); go_simp; (try with_reducible rfl))
            rotate_left
            simp only [Act.put, List.getElem_toArray, List.getElem_cons_zero, List.getElem_cons_succ, List.setIfInBounds_toArray, List.set_cons_zero, List.set_cons_succ]
            refine wpAnyH_take (i := 2) (oi := _) (v := ?_) rfl (by kernel_rfl) (by kernel_rfl) (by kernel_rfl) (fun _ _ _ h => h) (Or.inl ⟨by rfl, ?_⟩) hS ?_
            rotate_left
            · (intro w hSw; (try dsimp only at hSw); go_simp; (try with_reducible rfl))
            rotate_left
            simp only [Act.put, List.getElem_toArray, List.getElem_cons_zero, List.getElem_cons_succ, List.setIfInBounds_toArray, List.set_cons_zero, List.set_cons_succ]
            refine wpAnyH_take (i := 3) (oi := _) (v := ?_) rfl (by kernel_rfl) (by kernel_rfl) (by kernel_rfl) (fun _ _ _ h => h) (Or.inl ⟨by rfl, ?_⟩) hS ?_
            rotate_left
            · (intro w hSw; (try dsimp only at hSw); go_simp; (try with_reducible rfl))
            rotate_left
            simp only [Act.put, List.getElem_toArray, List.getElem_cons_zero, List.getElem_cons_succ, List.setIfInBounds_toArray, List.set_cons_zero, List.set_cons_succ]
            refine wpAnyH_take (i := 4) (oi := _) (v := ?_) rfl (by kernel_rfl) (by kernel_rfl) (by kernel_rfl) (fun _ _ _ h => h) (Or.inl ⟨by rfl, ?_⟩) hS ?_
            rotate_left
            · (intro w hSw; (try dsimp only at hSw); go_simp; (try with_reducible rfl))
            rotate_left
            simp only [Act.put, List.getElem_toArray, List.getElem_cons_zero, List.getElem_cons_succ, List.setIfInBounds_toArray, List.set_cons_zero, List.set_cons_succ]
            refine wpAnyH_take (i := 5) (oi := _) (v := ?_) rfl (by kernel_rfl) (by kernel_rfl) (by kernel_rfl) (fun _ _ _ h => h) (Or.inl ⟨by rfl, ?_⟩) hS ?_
            rotate_left
            · (intro w hSw; (try dsimp only at hSw); go_simp; (try with_reducible rfl))
            rotate_left
            simp only [Act.put, List.getElem_toArray, List.getElem_cons_zero, List.getElem_cons_succ, List.setIfInBounds_toArray, List.set_cons_zero, List.set_cons_succ]
            refine wpAnyH_take (i := 6) (oi := _) (v := ?_) rfl (by kernel_rfl) (by kernel_rfl) (by kernel_rfl) (fun _ _ _ h => h) (Or.inl ⟨by rfl, ?_⟩) hS ?_
            rotate_left
            · (intro w hSw; (try dsimp only at hSw); go_simp; (try with_reducible rfl))
            rotate_left
            simp only [Act.put, List.getElem_toArray, List.getElem_cons_zero, List.getElem_cons_succ, List.setIfInBounds_toArray, List.set_cons_zero, List.set_cons_succ]
            refine wpAnyH_take (i := 7) (oi := _) (v := ?_) rfl (by kernel_rfl) (by kernel_rfl) (by kernel_rfl) (fun _ _ _ h => h) (Or.inl ⟨by rfl, ?_⟩) hS ?_
            rotate_left
            · (intro w hSw; (try dsimp only at hSw); go_simp; (try with_reducible rfl))
            rotate_left
            simp only [Act.put, List.getElem_toArray, List.getElem_cons_zero, List.getElem_cons_succ, List.setIfInBounds_toArray, List.set_cons_zero, List.set_cons_succ]
            refine wpAnyH_take (i := 8) (oi := _) (v := ?_) rfl (by kernel_rfl) (by kernel_rfl) (by kernel_rfl) (fun _ _ _ h => h) (Or.inl ⟨by rfl, ?_⟩) hS ?_
            rotate_left
            · (intro w hSw; (try dsimp only at hSw); go_simp; (try with_reducible rfl))
            rotate_left
            simp only [Act.put, List.getElem_toArray, List.getElem_cons_zero, List.getElem_cons_succ, List.setIfInBounds_toArray, List.set_cons_zero, List.set_cons_succ]
            refine wpAnyH_take (i := 9) (oi := _) (v := ?_) rfl (by kernel_rfl) (by kernel_rfl) (by kernel_rfl) (fun _ _ _ h => h) (Or.inl ⟨by rfl, ?_⟩) hS ?_
            rotate_left
            · (intro w hSw; (try dsimp only at hSw); go_simp; (try with_reducible rfl))
            rotate_left
            simp only [Act.put, List.getElem_toArray, List.getElem_cons_zero, List.getElem_cons_succ, List.setIfInBounds_toArray, List.set_cons_zero, List.set_cons_succ]
            refine wpAnyH_take (i := 10) (oi := _) (v := ?_) rfl (by kernel_rfl) (by kernel_rfl) (by kernel_rfl) (fun _ _ _ h => h) (Or.inl ⟨by rfl, ?_⟩) hS ?_
            rotate_left
            · (intro w hSw; (try dsimp only at hSw); go_simp; (try with_reducible rfl))
            rotate_left
            simp only [Act.put, List.getElem_toArray, List.getElem_cons_zero, List.getElem_cons_succ, List.setIfInBounds_toArray, List.set_cons_zero, List.set_cons_succ]
            refine wpAnyH_ready (rs := [11]) (by kernel_rfl) (by simp) ?_
            refine AllReadyH.cons rfl (fun K hK => ?_) AllReadyH.nil
            rw [if_pos (by rfl)]
            refine wp_append_rd _ (.tmp 52) (.tmp 62) 29 rfl wo.heap.size 5 iu _ 1 1 Try.underlying29 hu hu0 hu1 hu2 rfl (by decide) _ (readS s1 a q).length ((readS s1 a q).map byteV) rfl (own_next HOW3.out (Ext.drew (Below.refl _ _))) A' lv.length c' (lv.map byteV) rfl (by simp) (HLA3.out.bytes_bs.below (Ext.drew (Below.refl _ _))).2 (byteV_one _) (by have := HAY.out.1; have := HQL.out; have := hrl.out; have := HL8.out; unfold maxLen; omega) (by have := HAY.out.1; have := HQL.out; have := hrl.out; have := HL8.out; omega) (HB3.out.size) ?_
            intro dv' w4 hown4 hgr4 hat4
            have b4 : Below wo.heap.size wo w4 := Below.grown (Ext.drew HB3.out) hgr4 HB3.out.size (fun k e => own_block HOW3.out e)
            refine hK.out _ _ ⟨(b4.cell (block_lt_of_cell HM12.out.1)).trans HM12.out.1, (b4.cell (block_lt_of_cell HM12.out.2)).trans HM12.out.2⟩ (fun hS' => ?_)
            clear hK K hS
            have hS := hS'
            clear hS'
            try simp only [Act.put, List.getElem_toArray, List.getElem_cons_zero, List.getElem_cons_succ, List.setIfInBounds_toArray, List.set_cons_zero, List.set_cons_succ]
            refine wpAnyH_take (i := 12) (oi := _) (v := ?_) rfl (by kernel_rfl) (by kernel_rfl) (by kernel_rfl) (fun _ _ _ h => h) (Or.inl ⟨by rfl, ?_⟩) hS ?_
            rotate_left
            · (intro w hSw; (try dsimp only at hSw); go_simp; (try with_reducible rfl))
            rotate_left
            simp only [Act.put, List.getElem_toArray, List.getElem_cons_zero, List.getElem_cons_succ, List.setIfInBounds_toArray, List.set_cons_zero, List.set_cons_succ]
            refine wpAnyH_done (by kernel_rfl) ?_ _
            have HOWN : Hid (w4.ownsRow wo.heap.size 5 1 dv' (readS s1 a (q + 1)).length ((readS s1 a (q + 1)).map byteV)) := by
              show World.ownsRow _ _ _ _ _ _ _
              rw [HST.out, List.length_append, List.map_append]
              exact hown4
            have HRL : Hid ((readS s1 a (q + 1)).length = 128 * (q + 1)) := by
              show _ = _
              rw [HST.out, List.length_append, hrl.out, HL8.out]
              omega
            have HWJ := next_wrap (show y ≤ maxLen by have := HAY.out.1; unfold maxLen; omega) HQL.out
            have HB4 := Lib.hid b4
            clear hown4 hgr4 hat4 b4 hS e1 hn0 hwb
            go_wp2
            go_roundw
            case rel => exact ⟨q + 1, HQL.out, by first | exact round_same HWJ | go_num, HB4.out, HOWN.out, HRL⟩
            case measure => first | exact round_less HWJ HQL.out | (have h := HQL.out; simp [intOf]; omega)
          · have hqe : q = y := by omega
            obtain ⟨DD, dq, hdv⟩ := own_form own2
            subst hdv
            have HRN : Hid (RdIn wr (NewB lo wr) (.sl .byte) (readS s1 a y) [.slice DD (readS s1 a y).length dq]) := by
              have h1 := OwnL.bytes_rdin (OwnL.of_bytes own2) (by have := hrl.out; have := HAY.out.1; omega)
              rw [hqe] at h1
              exact h1.mono fun b hb => ⟨by have := hb.1; have := HLR.out; omega, hb.2⟩
            rw [hqe]
            have HB4 := Lib.hid b2
            clear own2 b2 hrl
            go_wp2
            go_ret2
            exact ⟨.inr ⟨s1, readS s1 a y, DD, dq, by rw [HS1.out]; exact HRD.out y, rfl, HRN.out, HE1.out.next HB4.out HLR.out⟩, HK1.out.trans (Kp.of_below HB4.out HLR.out)⟩
end Go.Proofs.Ytclbihcggjjgaaa
/- Layer 30 (model): the program: a request is found, and taken out. -/
namespace Go.Proofs.Ytclbihcggjjgaaa
open Go Go.RowKit
set_option linter.unusedSimpArgs false
set_option linter.unusedVariables false

def FoundIs (p : GoTy.T → Bool) (gs : List GoTy.T) (e : Ending) : Prop := (∃ j, ∃ h : j < gs.length, e = .returned (.int .i64 (j : Int)) ∧ p gs[j] = true) ∨ (e = .returned (.int .i64 (-1)) ∧ ∀ j (h : j < gs.length), p gs[j] = false)
def numE (n : Int) (g : GoTy.T) : Bool := nuOf g == n
theorem end1_any (g : GoTy.T) (Ab : Option Addr) (cg : Nat) (Am : Option Addr) (lm cm : Nat) (number : Int) (gn : Nat) (w : World) (B1 : BoxOf w gn #[.int .i64 number] 3) :
    Calls Try.prog 57 #[.agg #[.int .i64 (nuOf g), .int .u8 ((kiOf g).toNat : Int), .int .i64 (atOf g), .int .i64 (manyOf g), .slice Ab (datOf g).length cg, .slice Am lm cm], .pointer (some ⟨gn, 0, none⟩)] w fun e w' => e = .returned (.bool (numE number g)) ∧ Below w.heap.size w w' := by
  have P0 := BoxOf.new w #[.int .i64 (nuOf g), .int .u8 ((kiOf g).toNat : Int), .int .i64 (atOf g), .int .i64 (manyOf g), .slice Ab (datOf g).length cg, .slice Am lm cm] 64
  have t0 := Ext.alloc (Below.refl w.heap.size w) (.cells #[.int .i64 (nuOf g), .int .u8 ((kiOf g).toNat : Int), .int .i64 (atOf g), .int .i64 (manyOf g), .slice Ab (datOf g).length cg, .slice Am lm cm] 64)
  have C1 := B1.alloc (.cells #[.int .i64 (nuOf g), .int .u8 ((kiOf g).toNat : Int), .int .i64 (atOf g), .int .i64 (manyOf g), .slice Ab (datOf g).length cg, .slice Am lm cm] 64)
  unfold numE
  clear B1
  go_enter Try.func57, Try.ntmps57
  go_upto_region 1 with fail
  generalize w.alloc (.cells #[.int .i64 (nuOf g), .int .u8 ((kiOf g).toNat : Int), .int .i64 (atOf g), .int .i64 (manyOf g), .slice Ab (datOf g).length cg, .slice Am lm cm] 64) = W at *
  have x0 := P0.cell
  have y1 := C1.cell
  go_wp2
  go_ret
  exact ⟨rfl, t0⟩

set_option maxRecDepth 100000 in
set_option maxHeartbeats 2000000 in
theorem idxf_end (S : Nat → Prop) (gs : List GoTy.T) (B : Option Addr) (d : Nat) (number : Int) (gn : Nat) (w : World) (hg : RdIn w S (.sl GoTy) gs [.slice B gs.length d]) (B1 : BoxOf w gn #[.int .i64 number] 3) :
    Calls Try.prog 56 #[.slice B gs.length d, .func (.func 57) #[] #[.pointer (some ⟨gn, 0, none⟩)]] w fun e w' => FoundIs (numE number) gs e ∧ Below w.heap.size w w' := by
  have HG := Lib.hid hg
  have HGM := Lib.hid (go_max hg)
  have HLE : Hid (∀ w', Below w.heap.size w w' → ∀ (g : GoTy.T) (Ab : Option Addr) (cg : Nat) (Am : Option Addr) (lm cm : Nat), Calls Try.prog 57 #[.agg #[.int .i64 (nuOf g), .int .u8 ((kiOf g).toNat : Int), .int .i64 (atOf g), .int .i64 (manyOf g), .slice Ab (datOf g).length cg, .slice Am lm cm], .pointer (some ⟨gn, 0, none⟩)] w' fun e w'' => e = .returned (.bool (numE number g)) ∧ Below w'.heap.size w' w'') := fun w' bb g Ab cg Am lm cm => end1_any g Ab cg Am lm cm number gn w' (B1.next bb)
  clear hg
  go_enter Try.func56, Try.ntmps56
  go_upto_region 1 with fail
  obtain ⟨W, hW⟩ : ∃ z : World, z = w := ⟨_, rfl⟩
  have b0 : Below W.heap.size W w := by rw [hW]; exact Below.refl _ _
  have HWW := Lib.hid hW
  rw [← hW] at HG
  clear hW
  go_wp2
  go_loopw [5, 8] (fun v i wr => ∃ (j : Nat), j ≤ gs.length ∧ i = .int .i64 j ∧ Below W.heap.size W wr ∧ Hid (∀ i, i < j → NotAt (numE number) gs i)) (fun _ i _ => gs.length - (intOf i).toNat)
  case atStart => exact ⟨0, by omega, rfl, b0, fun i h => absurd h (Nat.not_lt_zero _)⟩
  case round =>
    obtain ⟨j, hj, rfl, b1, HA⟩ := hrel
    clear b0
    have bw : Below w.heap.size w wr := by have := HWW.out; subst this; exact b1
    by_cases hlt : j < gs.length
    · obtain ⟨b, off, Ab, cg, Am, cm, rfl, q0, q1, q2, q3, q4, q5, i0, i1, i2, rb, rm⟩ := go_at (HG.out.below b1) hlt
      have HSK : Hid (NotAt (numE number) gs j ↔ (numE number) gs[j] = false) := ⟨fun h => h hlt, fun h _ => h⟩
      have HSY : Hid ((numE number) gs[j] = true → FoundIs (numE number) gs (.returned (.int .i64 (j : Int)))) := fun h => .inl ⟨j, hlt, rfl, h⟩
      generalize gs[j] = g at *
      have HWJ := next_wrap HGM.out hlt
      have HLJ := Lib.hid hlt
      have HRB := Lib.hid rb
      clear rb rm i0 i1 i2
      rcases Bool.eq_false_or_eq_true ((numE number) g) with e1 | e1
      · have HF := Lib.hid (HSY.out e1)
        go_wp2_with (go_at_call 57; refine (HLE.out _ bw _ _ _ _ _ _).mono ?_; rintro e w3 ⟨rfl, b3⟩)
        go_ret
        exact ⟨HF.out, Ext.trans bw b3⟩
      · have HA' : Hid (∀ i, i < j + 1 → NotAt (numE number) gs i) := by
          intro i hi
          by_cases h : i = j
          · subst h
            exact HSK.out.2 e1
          · exact HA.out i (by omega)
        go_wp2_with (go_at_call 57; refine (HLE.out _ bw _ _ _ _ _ _).mono ?_; rintro e w3 ⟨rfl, b3⟩)
        have b5 := Ext.trans b1 b3
        go_roundw
        case rel => exact ⟨j + 1, HLJ.out, by first | exact round_same HWJ | go_num, b5, HA'⟩
        case measure => first | exact round_less HWJ HLJ.out | (have h := HLJ.out; simp [intOf]; omega)
    · have HN : Hid (∀ i (h : i < gs.length), (numE number) gs[i] = false) := fun i hi => HA.out i (by omega) hi
      go_wp2
      go_ret
      exact ⟨.inr ⟨rfl, HN.out⟩, bw⟩

theorem MayS.more {w : World} {By By' : Nat → Prop} {lo R : Nat} {ys : Ys} (h : MayS w By lo R ys) (hB : ∀ b, By b → By' b) (hn : ∀ b cs, BoxOf w b cs 30 ∨ BoxOf w b cs 29 → By' b → By b) : MayS w By' lo R ys := by
  obtain ⟨cells, gf, of, cf, h1, h2, h3, h4⟩ := h
  refine ⟨cells, gf, of, cf, h1, ⟨h2.1, fun h => h2.2 (hn R _ (.inl h1) h)⟩, fun i hi => ⟨(h3 i hi).1, ?_⟩, h4⟩
  obtain ⟨cur, k1, k2, k3, k4, k5, k6⟩ := (h3 i hi).2
  exact ⟨cur, k1, k2, k3, k4, ⟨k5.1, fun h => k5.2 (hn _ _ (.inr k1) h)⟩, fun k hk => by
    obtain ⟨u, e1, e2⟩ := k6 k hk
    exact ⟨u, e1, e2.mono hB⟩⟩
theorem GoE.frame2 {w w' : World} {By By' : Nat → Prop} {lo : Nat} {at' at2 : Nat → Option Value} {b : Nat} {g : GoTy.T} (h : GoE w By lo at' b g) (ha : ∀ q, q < 6 → at2 q = at' q) (hf : mksOf g ≠ [] → w'.heap[b]? = w.heap[b]?) (hb : ∀ b, By b → w'.heap[b]? = w.heap[b]?) (hB : ∀ b, By b → By' b) (hB' : mksOf g ≠ [] → By' b → By b) : GoE w' By' lo at2 b g := by
  obtain ⟨vd, vm, ⟨h0, h1, h2, h3, h4, h5⟩, h6, h7, m0, A, c, m1, m2, m3, m4, m5⟩ := h
  refine ⟨vd, vm, ⟨by rw [ha 0 (by decide)]; exact h0, by rw [ha 1 (by decide)]; exact h1, by rw [ha 2 (by decide)]; exact h2, by rw [ha 3 (by decide)]; exact h3, by rw [ha 4 (by decide)]; exact h4, by rw [ha 5 (by decide)]; exact h5⟩, h6, (h7.frame hb).mono hB, m0, A, c, m1, m2, m3, m4, ?_⟩
  by_cases he : mksOf g = []
  · exact .inl he
  · rcases m5 with m5 | ⟨o, cur, m6, m7, m8, m9⟩
    · exact .inl m5
    · exact .inr ⟨o, cur, m6, by have := hf he; unfold BoxOf at *; rw [this]; exact m7, ⟨m8.1, fun h => m8.2 (hB' he h)⟩, m9⟩
theorem eraseIdx_at {gs : List GoTy.T} {j : Nat} (hj : j < gs.length) {i : Nat} (hi : i < (gs.eraseIdx j).length) : ∃ h : (if i < j then i else i + 1) < gs.length, (gs.eraseIdx j)[i] = gs[if i < j then i else i + 1] := by
  have h1 : (if i < j then i else i + 1) < gs.length := by rw [List.length_eraseIdx_of_lt hj] at hi; split <;> omega
  refine ⟨h1, ?_⟩
  rw [List.getElem_eraseIdx]
  split <;> simp [*]
/-- a request is taken out; its marks stay as they are -/
theorem GoS.del {w : World} {By : Nat → Prop} {lo : Nat} {B : Option Addr} {d : Nat} {gs : List GoTy.T} (h : GoS w By lo B d gs) (hBy : ∀ b, By b → b < w.heap.size) (hd : gs.length ≤ d) {j : Nat} (hj : j < gs.length) :
    ∃ (G o : Nat) (cells : Array Value) (Ab : Option Addr) (cb : Nat) (Am : Option Addr) (cm : Nat) (By' : Nat → Prop), B = some ⟨G, o, none⟩ ∧ BoxOf w G cells 64 ∧ o + d * 6 ≤ cells.size ∧
      (w.cell? ⟨G, o + j * 6, none⟩ = some (.int .i64 (nuOf gs[j])) ∧ w.cell? ⟨G, o + j * 6 + 1, none⟩ = some (.int .u8 ((kiOf gs[j]).toNat : Int)) ∧ w.cell? ⟨G, o + j * 6 + 2, none⟩ = some (.int .i64 (atOf gs[j])) ∧ w.cell? ⟨G, o + j * 6 + 3, none⟩ = some (.int .i64 (manyOf gs[j])) ∧ w.cell? ⟨G, o + j * 6 + 4, none⟩ = some (.slice Ab (datOf gs[j]).length cb) ∧ w.cell? ⟨G, o + j * 6 + 5, none⟩ = some (.slice Am (mksOf gs[j]).length cm)) ∧
      (∀ q, q < gs.length * 6 → ∃ u, cells.toList[o + q]? = some u ∧ u.oneCell' = true) ∧ (∀ b, By b → By' b) ∧ (∀ b, By' b → By b ∨ ∃ cs, lo ≤ b ∧ BoxOf w b cs 3) ∧ RdIn w By' (.sl .byte) (datOf gs[j]) [.slice Ab (datOf gs[j]).length cb] ∧ RdIn w By' (.sl .int) (mksOf gs[j]) [.slice Am (mksOf gs[j]).length cm] ∧
      ∀ wa w', Below w.heap.size w wa → DelIs G o 6 gs.length j (j + 1) cells 64 wa w' → GoS w' By' lo (some ⟨G, o, none⟩) d (gs.eraseIdx j) ∧ ∀ b, By' b → w'.heap[b]? = w.heap[b]? := by
  rcases h with h | ⟨G, o, cells, bf, h1, h2, h3, h4, h5⟩
  · rw [h] at hj; simp at hj
  · have hcell : ∀ q, q < gs.length * 6 → ∃ u, cells.toList[o + q]? = some u ∧ u.oneCell' = true := by
      intro q hq
      have hq1 : q / 6 < gs.length := by omega
      obtain ⟨vd, vm, ⟨k0, k1, k2, k3, k4, k5⟩, k6, k7, m0, Am, cm, m1, _⟩ := h4 (q / 6) hq1
      have e6 : q = q / 6 * 6 + q % 6 := by omega
      have hm : q % 6 = 0 ∨ q % 6 = 1 ∨ q % 6 = 2 ∨ q % 6 = 3 ∨ q % 6 = 4 ∨ q % 6 = 5 := by omega
      rw [e6, ← Nat.add_assoc]
      obtain ⟨Ad, cd, ed, _⟩ := k7.bytes
      rcases hm with hm | hm | hm | hm | hm | hm <;> rw [hm]
      · exact ⟨_, k0, rfl⟩
      · exact ⟨_, k1, rfl⟩
      · exact ⟨_, k2, rfl⟩
      · exact ⟨_, k3, rfl⟩
      · exact ⟨_, k4, by rw [ed]; rfl⟩
      · exact ⟨_, k5, by rw [m1]; rfl⟩
    have h4j := h4 j hj
    obtain ⟨vd, vm, ⟨k0, k1, k2, k3, k4, k5⟩, k6, k7, m0, Am, cm, rfl, m2, m3, m4, m5⟩ := h4j
    obtain ⟨Ab, cb, rfl, _⟩ := k7.bytes
    have hmk : ∀ i (hi : i < gs.length), mksOf gs[i] ≠ [] → ∃ cur, BoxOf w (bf i) cur 3 ∧ lo ≤ bf i ∧ ¬ By (bf i) := by
      intro i hi hne
      obtain ⟨_, _, _, _, _, _, _, _, _, _, _, _, hh⟩ := h4 i hi
      rcases hh with hh | ⟨_, cur, _, hh, hh2, _⟩
      · exact absurd hh hne
      · exact ⟨cur, hh, hh2.1, hh2.2⟩
    refine ⟨G, o, cells, Ab, cb, Am, cm, fun b => By b ∨ (mksOf gs[j] ≠ [] ∧ b = bf j), h1, h2, h3.2.2, ⟨by rw [h2.cell]; exact k0, by rw [h2.cell]; exact k1, by rw [h2.cell]; exact k2, by rw [h2.cell]; exact k3, by rw [h2.cell]; exact k4, by rw [h2.cell]; exact k5⟩, hcell, fun b hb => .inl hb, fun b hb => ?_, k7.mono fun b hb => .inl hb, ?_, fun wa w' hwa hD => ?_⟩
    · rcases hb with hb | ⟨hne, rfl⟩
      · exact .inl hb
      · obtain ⟨cur, e1, e2, _⟩ := hmk j hj hne
        exact .inr ⟨cur, e2, e1⟩
    · refine rdin_sl.2 ⟨_, _, rfl, m2, m3, m4, ?_⟩
      rcases m5 with m5 | ⟨o', cur, m6, m7, m8, m9⟩
      · exact .inl m5
      · by_cases hne : mksOf gs[j] = []
        · exact .inl hne
        · refine .inr ⟨bf j, o', m6, .inr ⟨hne, rfl⟩, fun i hi => ⟨[.int .i64 ((mksOf gs[j])[i]'hi)], fun q hq => ?_, rdin_int.2 ⟨rfl, m0 _ (List.getElem_mem hi)⟩⟩⟩
          have hq0 : q = 0 := by have : q < 1 := hq; omega
          subst hq0
          show w.cell? ⟨bf j, o' + i * 1 + 0, none⟩ = _
          rw [Nat.mul_one, Nat.add_zero, m7.cell]
          exact m9 i hi
    · obtain ⟨hg, cells', d1, d2, d3⟩ := hD
      have hB2 : ∀ b, (By b ∨ (mksOf gs[j] ≠ [] ∧ b = bf j)) → b < w.heap.size ∧ b ≠ G := by
        intro b hb
        rcases hb with hb | ⟨hne, rfl⟩
        · exact ⟨hBy b hb, fun e => h3.2.1 (e ▸ hb)⟩
        · obtain ⟨cur, e1, _, _⟩ := hmk j hj hne
          exact ⟨e1.lt, box_diff e1 h2 (by decide)⟩
      have hfr : ∀ b, b < w.heap.size → b ≠ G → w'.heap[b]? = w.heap[b]? := fun b h1 h2 => (hg.block b (Nat.lt_of_lt_of_le h1 hwa.size) (fun e => h2 (Option.some.inj e))).trans (hwa.block b h1)
      refine ⟨.inr ⟨G, o, cells', fun i => bf (if i < j then i else i + 1), rfl, d1, ⟨h3.1, fun h => (hB2 G h).2 rfl, by rw [d2]; exact h3.2.2⟩, fun i hi => ?_, fun i i' hi hi' e1 e2 e => ?_⟩, fun b hb => hfr b (hB2 b hb).1 (hB2 b hb).2⟩
      · obtain ⟨hlt, he⟩ := eraseIdx_at hj hi
        rw [he]
        have hil : i < gs.length - 1 := by rw [List.length_eraseIdx_of_lt hj] at hi; exact hi
        refine (h4 _ hlt).frame2 (fun q hq => ?_) (fun hne => ?_) (fun b hb => ?_) (fun b hb => .inl hb) (fun hne hb => ?_)
        · show cells'.toList[o + i * 6 + q]? = cells.toList[o + (if i < j then i else i + 1) * 6 + q]?
          rw [Nat.add_assoc, d3 (i * 6 + q) (by omega)]
          congr 1
          by_cases h : i < j
          · rw [if_pos h, if_pos (by omega)]; omega
          · rw [if_neg h, if_neg (by omega)]; omega
        · obtain ⟨cur, e1, _, _⟩ := hmk _ hlt hne
          exact hfr _ e1.lt (box_diff e1 h2 (by decide))
        · exact hfr _ (hB2 b (.inl hb)).1 (hB2 b (.inl hb)).2
        · rcases hb with hb | ⟨hne2, e⟩
          · exact hb
          · have := h5 _ _ hlt hj hne hne2 e
            split at this <;> omega
      · obtain ⟨hlt, he⟩ := eraseIdx_at hj hi
        obtain ⟨hlt', he'⟩ := eraseIdx_at hj hi'
        rw [he] at e1
        rw [he'] at e2
        have := h5 _ _ hlt hlt' e1 e2 e
        split at this <;> split at this <;> omega
end Go.Proofs.Ytclbihcggjjgaaa
/- Layer 30 (model): the program: a request ends. -/
namespace Go.Proofs.Ytclbihcggjjgaaa
open Go Go.RowKit
set_option linter.unusedSimpArgs false
set_option linter.unusedVariables false

theorem results_rows3 {P : Program} {fn : Func} {p q u : Tmp} {ty ty2 : TypeId} (h : fn.results = #[.cell p ty, .cell q ty2, .tmp u]) (tmps : Array Value) (w : World) (g : Nat) (t : TypeId) (cs : Array Value) (g2 : Nat) (t2 : TypeId) (cs2 : Array Value)
    (hp : tmps.getD p undef = .pointer (some ⟨g, 0, none⟩)) (hq : tmps.getD q undef = .pointer (some ⟨g2, 0, none⟩)) (hg : BoxOf w g cs t) (hg2 : BoxOf w g2 cs2 t2) (d d2 : TypeDesc)
    (hu : P.underlying ty = some d) (hu2 : P.underlying ty2 = some d2) (hd : (match d with | .struct _ | .array _ _ => true | _ => false) = true) (hd2 : (match d2 with | .struct _ | .array _ _ => true | _ => false) = true) (hi : (P.info? ty).map (·.size) = some cs.size) (hi2 : (P.info? ty2).map (·.size) = some cs2.size) :
    (results fn tmps).run P w = .ok (.tuple #[.agg cs, .agg cs2, tmps.getD u undef]) w := by
  have l1 := run_loadVar_row (P := P) w g t ty cs (0, 0) d hg hu hd hi
  have l2 := run_loadVar_row (P := P) w g2 t2 ty2 cs2 (0, 0) d2 hg2 hu2 hd2 hi2
  rw [Array.getD_eq_getD_getElem?] at hp hq
  simp only [results, h]
  simp [Sem.run_bind, Result.andThen, hp, hq, asAddr, l1, l2]
/-- what End answers -/
def EndIs (base : Nat) (x : Cfg) (ys : Ys) (gs : List GoTy.T) (number : Int) (e : Ending) (w : World) : Prop :=
  ∃ (v : Int) (zs : Ys) (hs : List GoTy.T) (rn : Int) (dat : List UInt8) (many : Int) (A' : Option Addr) (c' : Nat) (B' : Option Addr) (d' : Nat) (D : Option Addr) (q : Nat), e = .returned (.tuple #[.agg #[.slice A' zs.length c', .slice B' hs.length d'], .agg #[.int .i64 rn, .int .i64 0, .slice D dat.length q, .int .i64 many], .int .i64 v]) ∧
    EndRel x ys gs number v zs hs rn dat many ∧ RdIn w (NewB base w) (.sl (.sl (.sl .byte))) zs [.slice A' zs.length c'] ∧ RdIn w (NewB base w) (.sl GoTy) hs [.slice B' hs.length d'] ∧ RdIn w (NewB base w) (.sl .byte) dat [.slice D dat.length q]
theorem EndIs.err {base : Nat} {x : Cfg} {ys : Ys} {gs : List GoTy.T} {number v : Int} {w : World} (h : EndRel x ys gs number v [] [] 0 [] 0) : EndIs base x ys gs number (.returned (.tuple #[.agg #[.slice none 0 0, .slice none 0 0], .agg #[.int .i64 0, .int .i64 0, .slice none 0 0, .int .i64 0], .int .i64 v])) w :=
  ⟨v, [], [], 0, [], 0, none, 0, none, 0, none, 0, rfl, h, rdin_nil3 _ _, rdin_nilg _ _, rdin_nilb (by unfold maxLen; omega) _⟩
theorem numE_eq {n : Int} {g : GoTy.T} : numE n g = true ↔ nuOf g = n := by unfold numE; exact beq_iff_eq
theorem numE_ne {n : Int} {g : GoTy.T} : numE n g = false ↔ ¬ nuOf g = n := by unfold numE; exact beq_eq_false_iff_ne

theorem RdIn.rest {w w' : World} {lo base : Nat} {t : Ty} {x : t.T} {cs : List Value} (h : RdIn w (NewB lo w) t x cs) (hs : w'.heap.size = w.heap.size) (hf : ∀ b, lo ≤ b → w'.heap[b]? = w.heap[b]?) (hb : base ≤ lo) : RdIn w' (NewB base w') t x cs :=
  (h.frame fun b hB => hf b hB.1).mono fun b hB => by
    obtain ⟨h1, h2, cs, t, h3⟩ := hB
    exact ⟨Nat.le_trans hb h1, by rw [hs]; exact h2, cs, t, by rw [hf b h1]; exact h3⟩
theorem endAll_ok {x : Cfg} {ys : Ys} {gs : List GoTy.T} (h : PlainOk x ys gs) {j : Nat} (hj : j < gs.length) {t : (Ys × List GoTy.T) × List UInt8} (he : endAll ys gs j = some t) : PlainOk x t.1.1 t.1.2 ∧ t.1.1.length = ys.length ∧ t.1.2.length = (gs.eraseIdx j).length := by
  unfold endAll at he
  rw [List.getElem?_eq_getElem hj] at he
  obtain ⟨aok1, aok2, aok3, aok4, aok5, _⟩ := askCode_0 (h.goes j hj).1.2.1
  have hm := h.marks hj
  have hml : (mksOf gs[j]).length ≤ ys.length := by
    rcases hm.1 with e | e
    · rw [e]; exact Nat.zero_le _
    · exact Nat.le_of_eq e
  have h1 := marksS_ok (s := (ys, gs.eraseIdx j)) (h.erase hj) hml hm.2 _ (Nat.le_refl _)
  have hl := h.len
  have h2 := endS_ok h1.1 (k := ((kiOf gs[j]).toNat : Int)) (bs := datOf gs[j]) (a := (atOf gs[j]).toNat) (y := (manyOf gs[j]).toNat) (by
    rw [h1.2.1]
    unfold Placed at aok2
    show _ ≤ ys.length
    rcases aok2 with h2 | h2
    · have := h2.2.2.2.2; omega
    · have := h2.2.2; omega) (fun hk => by
    unfold kWant at aok3
    rw [if_pos hk] at aok3
    omega) _ (Nat.le_refl _) t he
  exact ⟨h2.1, h2.2.1.trans h1.2.1, h2.2.2.trans h1.2.2.1⟩

set_option maxRecDepth 100000 in
set_option maxHeartbeats 1000000 in
theorem send0_any (S : Nat → Prop) (x : Cfg) (ys : Ys) (gs : List GoTy.T) (A : Option Addr) (ca : Nat) (B : Option Addr) (cb : Nat) (number : Int) (w : World) (hy : RdIn w S (.sl (.sl (.sl .byte))) ys [.slice A ys.length ca]) (hg : RdIn w S (.sl GoTy) gs [.slice B gs.length cb]) :
    Calls Try.prog 23 #[x.val, .agg #[.slice A ys.length ca, .slice B gs.length cb], .int .i64 number] w fun e w' => EndIs w.heap.size x ys gs number e w' ∧ Below w.heap.size w w' := by
  have HPC : Hid (∀ w', Below w.heap.size w w' → Calls Try.prog 18 #[x.val, .agg #[.slice A ys.length ca, .slice B gs.length cb]] w' fun e w'' => OkBad (PlainOk x ys gs) e ∧ Below w'.heap.size w' w'') := fun w' bb => spcheck_any S x ys gs A ca B cb w' (hy.below bb) (hg.below bb)
  have HTW : Hid (∀ w', Below w.heap.size w w' → Calls Try.prog 33 #[.agg #[.slice A ys.length ca, .slice B gs.length cb]] w' fun e w'' => TwinIs w'.heap.size ys gs e w'' ∧ Below w'.heap.size w' w'') := fun w' bb => stwin_any S ys gs A ca B cb w' (hy.below bb) (hg.below bb)
  clear hy hg
  have hmf : ∀ (fn : Fn) (first cap : Array Value) (w : World), (Instr.makeFunc fn first cap).run Try.prog w = .ok (.func fn first cap) w := fun _ _ _ _ => rfl
  obtain ⟨id, m, c, r, l, h⟩ := x
  unfold Cfg.val at *
  dsimp only at *
  have C0 := BoxOf.alloc (BoxOf.alloc (BoxOf.alloc (BoxOf.alloc (BoxOf.new w #[.int .u32 (id : Int), .int .i64 m, .int .i64 c, .int .i64 r, .int .i64 l, .int .i64 h] 24) (.cells #[.slice A ys.length ca, .slice B gs.length cb] 28)) (.cells #[.int .i64 number] 3)) (.cells #[.slice none 0 0, .slice none 0 0] 28)) (.cells #[.int .i64 0, .int .i64 0, .slice none 0 0, .int .i64 0] 53)
  have P0 := BoxOf.alloc (BoxOf.alloc (BoxOf.alloc (BoxOf.new' (w.alloc (.cells #[.int .u32 (id : Int), .int .i64 m, .int .i64 c, .int .i64 r, .int .i64 l, .int .i64 h] 24)) (w.heap.size + 1) #[.slice A ys.length ca, .slice B gs.length cb] 28 (by simp)) (.cells #[.int .i64 number] 3)) (.cells #[.slice none 0 0, .slice none 0 0] 28)) (.cells #[.int .i64 0, .int .i64 0, .slice none 0 0, .int .i64 0] 53)
  have N0 := BoxOf.alloc (BoxOf.alloc (BoxOf.new' ((w.alloc (.cells #[.int .u32 (id : Int), .int .i64 m, .int .i64 c, .int .i64 r, .int .i64 l, .int .i64 h] 24)).alloc (.cells #[.slice A ys.length ca, .slice B gs.length cb] 28)) (w.heap.size + 2) #[.int .i64 number] 3 (by simp)) (.cells #[.slice none 0 0, .slice none 0 0] 28)) (.cells #[.int .i64 0, .int .i64 0, .slice none 0 0, .int .i64 0] 53)
  have Z0 := BoxOf.alloc (BoxOf.new' (((w.alloc (.cells #[.int .u32 (id : Int), .int .i64 m, .int .i64 c, .int .i64 r, .int .i64 l, .int .i64 h] 24)).alloc (.cells #[.slice A ys.length ca, .slice B gs.length cb] 28)).alloc (.cells #[.int .i64 number] 3)) (w.heap.size + 3) #[.slice none 0 0, .slice none 0 0] 28 (by simp)) (.cells #[.int .i64 0, .int .i64 0, .slice none 0 0, .int .i64 0] 53)
  have Y0 := BoxOf.new' ((((w.alloc (.cells #[.int .u32 (id : Int), .int .i64 m, .int .i64 c, .int .i64 r, .int .i64 l, .int .i64 h] 24)).alloc (.cells #[.slice A ys.length ca, .slice B gs.length cb] 28)).alloc (.cells #[.int .i64 number] 3)).alloc (.cells #[.slice none 0 0, .slice none 0 0] 28)) (w.heap.size + 4) #[.int .i64 0, .int .i64 0, .slice none 0 0, .int .i64 0] 53 (by simp)
  have t0 := Ext.alloc (Ext.alloc (Ext.alloc (Ext.alloc (Ext.alloc (Below.refl w.heap.size w) (.cells #[.int .u32 (id : Int), .int .i64 m, .int .i64 c, .int .i64 r, .int .i64 l, .int .i64 h] 24)) (.cells #[.slice A ys.length ca, .slice B gs.length cb] 28)) (.cells #[.int .i64 number] 3)) (.cells #[.slice none 0 0, .slice none 0 0] 28)) (.cells #[.int .i64 0, .int .i64 0, .slice none 0 0, .int .i64 0] 53)
  go_enter Try.func23, Try.ntmps23
  go_upto_region 1 with fail
  generalize ((((w.alloc (.cells #[.int .u32 (id : Int), .int .i64 m, .int .i64 c, .int .i64 r, .int .i64 l, .int .i64 h] 24)).alloc (.cells #[.slice A ys.length ca, .slice B gs.length cb] 28)).alloc (.cells #[.int .i64 number] 3)).alloc (.cells #[.slice none 0 0, .slice none 0 0] 28)).alloc (.cells #[.int .i64 0, .int .i64 0, .slice none 0 0, .int .i64 0] 53) = W at *
  have c0 := C0.cell
  have p0 := P0.cell
  have n0 := N0.cell
  have z0 := Z0.cell
  have zf0 := Z0.free
  have yc0 := Y0.cell
  have yf0 := Y0.free
  go_wp2_with fail
  refine (HPC.out _ t0).mono ?_
  rintro e w1 ⟨h1, b1⟩
  clear c0 p0 n0 z0 zf0 yc0 yf0
  have C1 := C0.next b1
  have P1 := P0.next b1
  have N1 := N0.next b1
  have Z1 := Z0.next b1
  have Y1 := Y0.next b1
  have t1 := Ext.trans t0 b1
  clear C0 P0 N0 Z0 Y0 t0
  clear b1
  rcases h1 with ⟨hok, rfl⟩ | ⟨hno, rfl⟩
  · have HOK := Lib.hid hok
    clear hok
    have c1 := C1.cell
    have p1 := P1.cell
    have n1 := N1.cell
    have z1 := Z1.cell
    have zf1 := Z1.free
    have yc1 := Y1.cell
    have yf1 := Y1.free
    go_wp2_with fail
    refine (HTW.out _ t1).mono ?_
    rintro e w2 ⟨h2, b2⟩
    obtain ⟨R, cR, B', d', By, rfl, hcR, hd', hM, hG, hBy⟩ := h2.state (by have h3 := Cfg.crm HOK.out.cfg; have h4 := HOK.out.len; omega) (fun i hi => by have := (HOK.out.row hi).1; omega)
    clear c1 p1 n1 z1 zf1 yc1 yf1
    obtain ⟨lo, hlo⟩ : ∃ z : Nat, z = w1.heap.size := ⟨_, rfl⟩
    rw [← hlo] at hM hG hBy
    have hlw : w.heap.size + 4 < lo := by have := Y1.lt; omega
    have hl2 : lo ≤ w2.heap.size := by rw [hlo]; exact b2.size
    have C2 := C1.next b2
    have P2 := P1.next b2
    have N2 := N1.next b2
    have Z2 := Z1.next b2
    have Y2 := Y1.next b2
    have t2 := Ext.trans t1 b2
    clear C1 P1 N1 Z1 Y1 t1
    have b4 := Ext.alloc (Below.refl w2.heap.size w2) (.cells #[.slice (some ⟨R, 0, none⟩) ys.length cR, .slice B' gs.length d'] 28)
    have O4 := BoxOf.new w2 #[.slice (some ⟨R, 0, none⟩) ys.length cR, .slice B' gs.length d'] 28
    have hBl : ∀ b, By b → b < w2.heap.size := fun b hb => (hBy b hb).2.1
    have hM4 := hM.mono b4 hBl (fun _ h => h) (fun _ _ h => h)
    have hG4 := hG.mono b4 hBl (fun _ h => h) (fun _ _ h => h)
    have hBy4 : ∀ b, By b → NewB lo (w2.alloc (.cells #[.slice (some ⟨R, 0, none⟩) ys.length cR, .slice B' gs.length d'] 28)) b := fun b hb => newB_next (hBy b hb) b4.size (b4.block b (hBl b hb))
    have HLW := Lib.hid (And.intro hlw hl2)
    have HBl := Lib.hid hBl
    clear b2 h2 hM hG hBy hBl hlo hlw hl2
    go_upto_region 5 with fail
    obtain ⟨go, hgo⟩ : ∃ z : Nat, z = w2.heap.size := ⟨_, rfl⟩
    rw [← hgo] at O4 ⊢
    have HGO := Lib.hid hgo
    have HBG4 : Hid (∀ b, By b → b < go) := fun b hb => by have := HBl.out b hb; omega
    have hl4 := b4.size
    rw [← hgo] at hl4
    clear hgo
    have C4 := C2.next b4
    have P4 := P2.next b4
    have N4 := N2.next b4
    have Z4 := Z2.next b4
    have Y4 := Y2.next b4
    have t4 := Ext.trans t2 b4
    clear C2 P2 N2 Z2 Y2 t2
    generalize w2.alloc (.cells #[.slice (some ⟨R, 0, none⟩) ys.length cR, .slice B' gs.length d'] 28) = w4 at *
    have HRG := Lib.hid (hG4.rdin hd' (by have := HOK.out.few; omega) hBy4)
    have HM4 := Lib.hid hM4
    have HG4 := Lib.hid hG4
    have HBY4 := Lib.hid hBy4
    have HCR := Lib.hid hcR
    have HD' := Lib.hid hd'
    clear hM4 hG4 hBy4 hcR hd' b4
    have o4 := O4.cell
    have c4 := C4.cell
    have p4 := P4.cell
    have n4 := N4.cell
    have z4 := Z4.cell
    have zf4 := Z4.free
    have yc4 := Y4.cell
    have yf4 := Y4.free
    have HIF := Lib.hid (idxf_end (NewB lo w4) gs B' d' number (w.heap.size + 2) w4 HRG.out N4)
    go_wp2_with fail
    refine HIF.out.mono ?_
    rintro e w5 ⟨hf, b5⟩
    clear c4 p4 n4 z4 zf4 yc4 yf4 o4
    have O5 := O4.next b5
    have hl45 := b5.size
    have HL45 : Hid (w2.heap.size ≤ w5.heap.size) := by show _ ≤ _; have := HGO.out; omega
    have HO5 := Lib.hid O5
    have HBG : Hid (∀ b, By b → b < go) := HBG4
    have hM5 := Lib.hid (HM4.out.mono b5 (fun b hb => (HBY4.out b hb).2.1) (fun _ h => h) (fun _ _ h => h))
    have hG5 := Lib.hid (HG4.out.mono b5 (fun b hb => (HBY4.out b hb).2.1) (fun _ h => h) (fun _ _ h => h))
    have hBy5 : Hid (∀ b, By b → NewB lo w5 b) := fun b hb => newB_next (HBY4.out b hb) b5.size (b5.block b (HBY4.out b hb).2.1)
    have C5 := C4.next b5
    have P5 := P4.next b5
    have N5 := N4.next b5
    have Z5 := Z4.next b5
    have Y5 := Y4.next b5
    have t5 := Ext.trans t4 b5
    clear C4 P4 N4 Z4 Y4 t4
    clear HM4 HG4 HBY4 b5 HRG HIF O4
    have o5 := O5.cell
    have of5 := O5.free
    have c5 := C5.cell
    have p5 := P5.cell
    have n5 := N5.cell
    have z5 := Z5.cell
    have zf5 := Z5.free
    have yc5 := Y5.cell
    have yf5 := Y5.free
    rcases hf with ⟨j, hj, rfl, hnum⟩ | ⟨rfl, hnone⟩
    · have hnu := numE_eq.1 hnum
      obtain ⟨G, o, cells, Ab, cb', Am, cm, By', rfl, g1, g2, ⟨q0, q1, q2, q3, q4, q5⟩, g3, g4, g5, g6, g7, g8⟩ := hG5.out.del (fun b hb => (hBy5.out b hb).2.1) HD'.out.1 hj
      have HONE := Lib.hid (HOK.out.goes j hj).1
      have HMKS := Lib.hid (HOK.out.marks hj)
      have HERA := Lib.hid (HOK.out.erase hj)
      have HLE : Hid ((gs.eraseIdx j).length = gs.length - 1) := List.length_eraseIdx_of_lt hj
      have HEA : Hid (endAll ys gs j = endS ((kiOf gs[j]).toNat : Int) (datOf gs[j]) (atOf gs[j]).toNat (manyOf gs[j]).toNat (marksS (mksOf gs[j]) (mksOf gs[j]).length (ys, gs.eraseIdx j))) := by
        show endAll ys gs j = _
        unfold endAll
        rw [List.getElem?_eq_getElem hj]
      have HNU : Hid (∃ h : j < gs.length, nuOf gs[j] = number) := ⟨hj, hnu⟩
      generalize hgj : gs[j] = gj at *
      obtain ⟨aok1, aok2, aok3, aok4, aok5, _⟩ := askCode_0 HONE.out.2.1
      obtain ⟨a, ha⟩ : ∃ a : Nat, atOf gj = (a : Int) := ⟨(atOf gj).toNat, by omega⟩
      obtain ⟨y, hy⟩ : ∃ y : Nat, manyOf gj = (y : Int) := ⟨(manyOf gj).toNat, by omega⟩
      have HAYL : Hid (y ≤ 8 ∧ a + y ≤ ys.length ∧ (kBytes ((kiOf gj).toNat : Int) = true → y * 128 ≤ (datOf gj).length)) := by
        have h1 := HOK.out.len
        unfold Placed at aok2
        unfold kWant at aok3
        refine ⟨by omega, ?_, fun hk => ?_⟩
        · rw [ha, hy] at aok2
          rcases aok2 with h2 | h2
          · have := h2.2.2.2.2; omega
          · have := h2.2.2; omega
        · rw [if_pos hk, hy] at aok3
          omega
      rw [ha, hy, Int.toNat_natCast, Int.toNat_natCast] at HEA
      rw [ha] at q2
      rw [hy] at q3
      have HHY := Lib.hid hy
      clear aok1 aok2 aok3 aok4 aok5
      have HGJ := Lib.hid hgj
      have HJ := Lib.hid hj
      have HGR := Lib.hid (And.intro g1 (And.intro g2 g3))
      have HBB := Lib.hid (And.intro g4 g5)
      have HGG : Hid (lo ≤ G) := by
        rcases hG5.out with h | ⟨G2, o2, _, _, e, _, h, _⟩
        · rw [h] at hj; simp at hj
        · injection e with e; injection e with e; show lo ≤ G; rw [e]; exact h.1
      have HRB := Lib.hid g6
      have HRM := Lib.hid g7
      have HDEL := Lib.hid g8
      have hj0 : decide ((j : Int) < 0) = false := decide_eq_false (by omega)
      clear ha hy hgj hnu hnum g1 g2 g3 g4 g5 g6 g7 g8
      have X6 := BoxOf.new w5 #[.int .i64 (nuOf gj), .int .u8 ((kiOf gj).toNat : Int), .int .i64 (a : Int), .int .i64 (y : Int), .slice Ab (datOf gj).length cb', .slice Am (mksOf gj).length cm] 64
      have b6 := Ext.alloc (Below.refl w5.heap.size w5) (.cells #[.int .i64 (nuOf gj), .int .u8 ((kiOf gj).toNat : Int), .int .i64 (a : Int), .int .i64 (y : Int), .slice Ab (datOf gj).length cb', .slice Am (mksOf gj).length cm] 64)
      go_upto_region 9 with fail
      obtain ⟨gx, hgx⟩ : ∃ z : Nat, z = w5.heap.size := ⟨_, rfl⟩
      rw [← hgx] at X6 ⊢
      have HGX := Lib.hid hgx
      clear hgx c5 p5 n5 z5 zf5 yc5 yf5 o5 of5 q0 q1 q2 q3 q4 q5
      have HB6 := Lib.hid b6
      have hl56 := b6.size
      have O6 := O5.next b6
      have C6 := C5.next b6
      have P6 := P5.next b6
      have N6 := N5.next b6
      have Z6 := Z5.next b6
      have Y6 := Y5.next b6
      have t6 := Ext.trans t5 b6
      clear C5 P5 N5 Z5 Y5 t5
      generalize w5.alloc (.cells #[.int .i64 (nuOf gj), .int .u8 ((kiOf gj).toNat : Int), .int .i64 (a : Int), .int .i64 (y : Int), .slice Ab (datOf gj).length cb', .slice Am (mksOf gj).length cm] 64) = w6 at *
      clear b6 O5
      have o6 := O6.cell
      have hw1 : wrap64 ((j : Int) + 1) = ((j + 1 : Nat) : Int) := by
        have := HOK.out.few
        have := HJ.out
        rw [IntWalk.wrap64_in _ (by omega)]
        rfl
      have HDC := Lib.hid (delG_any G o gs.length d' j (j + 1) cells w6 (HGR.out.1.next HB6.out) HD'.out.1 HD'.out.2 HGR.out.2.1 (by omega) HJ.out HGR.out.2.2)
      go_wp2_with fail
      refine HDC.out.mono ?_
      rintro e w7 ⟨rfl, hD7⟩
      have hG6 : BoxOf w6 G cells 64 := HGR.out.1.next HB6.out
      have hBut : But 64 w6 w7 := But.grown hG6 hD7.1
      have hGlt := HGR.out.1.lt
      have C7 := C6.but hBut (by decide)
      have P7 := P6.but hBut (by decide)
      have N7 := N6.but hBut (by decide)
      have Z7 := Z6.but hBut (by decide)
      have Y7 := Y6.but hBut (by decide)
      have O7 := O6.but hBut (by decide)
      have X7 := X6.grown hD7.1 (fun e => by have := Option.some.inj e; have := HGX.out; omega)
      have ej : gs.length - (j + 1 - j) = (gs.eraseIdx j).length := by rw [HLE.out]; omega
      rw [ej]
      have hdel := HDEL.out w6 w7 HB6.out hD7
      have hM7 : MayS w7 By' lo R ys := by
        refine MayS.but (t := 64) (MayS.mono (hM5.out.more HBB.out.1 (fun b cs hb h => ?_)) HB6.out (fun b hb => ?_) (fun _ h => h) (fun _ _ h => h)) (by decide) (by decide) hBut (fun b hb => ?_)
        · rcases HBB.out.2 b h with h | ⟨cs2, _, h⟩
          · exact h
          · rcases hb with hb | hb
            · exact absurd rfl (box_diff h hb (by decide))
            · exact absurd rfl (box_diff h hb (by decide))
        · rcases HBB.out.2 b hb with h | ⟨cs2, _, h⟩
          · exact (hBy5.out b h).2.1
          · exact h.lt
        · have hlt5 : b < w5.heap.size := by
            rcases HBB.out.2 b hb with h | ⟨cs2, _, h⟩
            · exact (hBy5.out b h).2.1
            · exact h.lt
          rw [hdel.2 b hb, HB6.out.block b hlt5]
      have hBy7 : ∀ b, By' b → NewB lo w7 b := by
        intro b hb
        have hs : w5.heap.size ≤ w7.heap.size := Nat.le_trans HB6.out.size hD7.1.size
        rcases HBB.out.2 b hb with h | ⟨cs2, h1, h⟩
        · exact newB_next (hBy5.out b h) hs (hdel.2 b hb)
        · exact newB_next ⟨h1, h.lt, cs2, _, h⟩ hs (hdel.2 b hb)
      have hgo : ∀ b, By' b → b ≠ go := by
        intro b hb
        rcases HBB.out.2 b hb with h | ⟨cs2, _, h⟩
        · have := HBG.out b h; omega
        · exact box_diff h HO5.out (by decide)
      have f7 := O7.free
      have o7 := O7.cell
      have HM7 := Lib.hid hM7
      have HG7 := Lib.hid hdel.1
      have HBY7 := Lib.hid hBy7
      have HGOB := Lib.hid hgo
      have HRB7 : Hid (RdIn w7 By' (.sl .byte) (datOf gj) [.slice Ab (datOf gj).length cb']) := HRB.out.frame hdel.2
      have HRM7 : Hid (RdIn w7 By' (.sl .int) (mksOf gj) [.slice Am (mksOf gj).length cm]) := HRM.out.frame hdel.2
      have HG67 := Lib.hid hD7.1
      clear hM7 hBy7 hgo hdel hG6 hBut hGlt ej hD7 o6
      go_upto_region 10 with fail
      have O8 : BoxOf (w7.setCell ⟨go, 1, none⟩ (.slice (some ⟨G, o, none⟩) (gs.eraseIdx j).length d')) go #[.slice (some ⟨R, 0, none⟩) ys.length cR, .slice (some ⟨G, o, none⟩) (gs.eraseIdx j).length d'] 28 := mbox_self O7 1 (.slice (some ⟨G, o, none⟩) (gs.eraseIdx j).length d')
      have hB8 : But 28 w7 (w7.setCell ⟨go, 1, none⟩ (.slice (some ⟨G, o, none⟩) (gs.eraseIdx j).length d')) := But.setCell O7 _
      have hne3 : go ≠ w.heap.size + 3 := by have := HGO.out; have := HLW.out; omega
      have C8 := C7.but hB8 (by decide)
      have N8 := N7.but hB8 (by decide)
      have X8 := X7.but hB8 (by decide)
      have Y8 := Y7.but hB8 (by decide)
      have Z8 := mbox_else Z7 hne3.symm 1 (.slice (some ⟨G, o, none⟩) (gs.eraseIdx j).length d')
      have hs8 : (w7.setCell ⟨go, 1, none⟩ (.slice (some ⟨G, o, none⟩) (gs.eraseIdx j).length d')).heap.size = w7.heap.size := msize _ _ _
      have hbk : ∀ b, By' b → (w7.setCell ⟨go, 1, none⟩ (.slice (some ⟨G, o, none⟩) (gs.eraseIdx j).length d')).heap[b]? = w7.heap[b]? := fun b hb => Below.heap_setCell _ _ _ _ (HGOB.out b hb)
      have hM8 := Lib.hid (HM7.out.but (t := 28) (by decide) (by decide) hB8 hbk)
      have hG8 := Lib.hid (HG7.out.but (t := 28) (by decide) (by decide) hB8 hbk (fun _ h => h) (fun _ _ h => h))
      have hBy8 : Hid (∀ b, By' b → NewB lo (w7.setCell ⟨go, 1, none⟩ (.slice (some ⟨G, o, none⟩) (gs.eraseIdx j).length d')) b) := fun b hb => newB_next (HBY7.out b hb) (by rw [hs8]; exact Nat.le_refl _) (hbk b hb)
      have hD8 := Lib.hid (HRB7.out.frame hbk)
      have hR8 := Lib.hid (HRM7.out.frame hbk)
      have T8 : Hid (Below w.heap.size w (w7.setCell ⟨go, 1, none⟩ (.slice (some ⟨G, o, none⟩) (gs.eraseIdx j).length d')) ∧ lo ≤ (w7.setCell ⟨go, 1, none⟩ (.slice (some ⟨G, o, none⟩) (gs.eraseIdx j).length d')).heap.size) := by
        have hgl := HGR.out.1.lt
        have h1 : w.heap.size ≤ G := by have := (HGG.out); have := HLW.out; omega
        have h2 := HG67.out.size
        have h3 := HB6.out.size
        refine ⟨Below.setCell (Below.grown t6 HG67.out t6.size (fun k e => by have := Option.some.inj e; omega)) (by have := HGO.out; have := HLW.out; show w.heap.size ≤ go; omega) _, ?_⟩
        rw [hs8]
        have := HLW.out
        have := HL45.out
        omega
      clear C7 P7 N7 Z7 Y7 O7 X7 hB8 hs8 hbk HM7 HG7 HBY7 HRB7 HRM7 f7 o7 t6 hne3
      generalize w7.setCell ⟨go, 1, none⟩ (.slice (some ⟨G, o, none⟩) (gs.eraseIdx j).length d') = w8 at *
      have x8 := X8.cell
      have HSE := Lib.hid (send_any ⟨id, m, c, r, l, h⟩ By' lo R cR (some ⟨G, o, none⟩) d' (ys, gs.eraseIdx j) go (nuOf gj) (kiOf gj) a y (datOf gj) (mksOf gj) Ab cb' Am cm w8 O8 hM8.out hG8.out hBy8.out T8.out.2 HERA.out HAYL.out.1 HAYL.out.2.1 HAYL.out.2.2 (by
        rcases HMKS.out.1 with h | h
        · rw [h]; simp
        · exact Nat.le_of_eq h) (fun q hq => HMKS.out.2 q hq) hD8.out hR8.out)
      clear O6 hM5 hG5
      go_wp2_with fail
      refine HSE.out.mono ?_
      rintro e w9 ⟨hsd, hkp⟩
      have t9 := Below.trans T8.out.1 (Below.mono hkp.below (by have := HLW.out; omega))
      have Z9 := hkp.box _ _ _ Z8 (by decide) (by decide) (by decide)
      have Y9 := hkp.box _ _ _ Y8 (by decide) (by decide) (by decide)
      have X9 := hkp.box _ _ _ X8 (by decide) (by decide) (by decide)
      have O9 := hkp.box _ _ _ O8 (by decide) (by decide) (by decide)
      have N9 : BoxOf w9 (w.heap.size + 2) #[.int .i64 number] 3 := by
        unfold BoxOf at *
        rw [hkp.below.block _ (by have := HLW.out; omega)]
        exact N8
      have hl9 := hkp.below.size
      clear x8 X8 O8 Z8 Y8 N8 C8 hkp HSE
      have z9 := Z9.cell
      have zf9 := Z9.free
      have yc9 := Y9.cell
      have yf9 := Y9.free
      rcases hsd with ⟨hno, rfl⟩ | ⟨tt, dat, DD, dq, hsome, rfl, hdat, hE⟩
      · have HNONE : Hid (endAll ys gs j = none) := HEA.out.trans hno
        clear hno X9 O9 N9
        go_wp2
        have B5 := mbox_self (mbox_self Z9 0 (.slice none 0 0)) 1 (.slice none 0 0)
        have B6 := mbox_self (mbox_self (mbox_self (mbox_self (mbox_else (mbox_else Y9 (show w.heap.size + 4 ≠ w.heap.size + 3 by omega) 0 (.slice none 0 0)) (show w.heap.size + 4 ≠ w.heap.size + 3 by omega) 1 (.slice none 0 0)) 0 (.int .i64 0)) 1 (.int .i64 0)) 2 (.slice none 0 0)) 3 (.int .i64 0)
        have B7 := mbox_else (mbox_else (mbox_else (mbox_else B5 (show w.heap.size + 3 ≠ w.heap.size + 4 by omega) 0 (.int .i64 0)) (show w.heap.size + 3 ≠ w.heap.size + 4 by omega) 1 (.int .i64 0)) (show w.heap.size + 3 ≠ w.heap.size + 4 by omega) 2 (.slice none 0 0)) (show w.heap.size + 3 ≠ w.heap.size + 4 by omega) 3 (.int .i64 0)
        have T5 := Below.setCell (p := ⟨w.heap.size + 4, 3, none⟩) (Below.setCell (p := ⟨w.heap.size + 4, 2, none⟩) (Below.setCell (p := ⟨w.heap.size + 4, 1, none⟩) (Below.setCell (p := ⟨w.heap.size + 4, 0, none⟩) (Below.setCell (p := ⟨w.heap.size + 3, 1, none⟩) (Below.setCell (p := ⟨w.heap.size + 3, 0, none⟩) t9 (show w.heap.size ≤ w.heap.size + 3 by omega) (.slice none 0 0)) (show w.heap.size ≤ w.heap.size + 3 by omega) (.slice none 0 0)) (show w.heap.size ≤ w.heap.size + 4 by omega) (.int .i64 0)) (show w.heap.size ≤ w.heap.size + 4 by omega) (.int .i64 0)) (show w.heap.size ≤ w.heap.size + 4 by omega) (.slice none 0 0)) (show w.heap.size ≤ w.heap.size + 4 by omega) (.int .i64 0)
        exact bodyPost_ret (v := .tuple #[.agg #[.slice none 0 0, .slice none 0 0], .agg #[.int .i64 0, .int .i64 0, .slice none 0 0, .int .i64 0], .int .i64 9]) (Eq.trans (results_rows3 (P := Try.prog) (fn := Try.f23) (p := 6) (q := 7) (u := 8) rfl _ _ (w.heap.size + 3) 28 #[.slice none 0 0, .slice none 0 0] (w.heap.size + 4) 53 #[.int .i64 0, .int .i64 0, .slice none 0 0, .int .i64 0] rfl rfl B7 B6 _ _ Try.underlying28 Try.underlying53 rfl rfl (by kernel_rfl) (by kernel_rfl)) rfl) rfl ⟨EndIs.err (.inr (.inr (.inl ⟨HOK.out, ⟨j, HJ.out, (by obtain ⟨_, h⟩ := HNU.out; exact h), HNONE.out⟩, rfl, rfl, rfl, rfl, rfl, rfl⟩))), T5⟩
      · have HSOME : Hid (endAll ys gs j = some (tt, dat)) := HEA.out.trans hsome
        have HE := Lib.hid hE
        have HDAT := Lib.hid hdat
        clear hsome hE hdat
        go_upto_region 13 with fail
        refine wp_region_held_drew (S := fun w' => (∀ p, w'.cell? ⟨go, p, none⟩ = (#[.slice (some ⟨R, 0, none⟩) ys.length cR, .slice (some ⟨G, o, none⟩) (gs.eraseIdx j).length d'] : Array Value).toList[p]?) ∧ (∀ p, w'.cell? ⟨w.heap.size + 1 + 1, p, none⟩ = (#[.int .i64 number] : Array Value).toList[p]?) ∧ ∀ p, w'.cell? ⟨gx, p, none⟩ = (#[.int .i64 (nuOf gj), .int .u8 ((kiOf gj).toNat : Int), .int .i64 (a : Int), .int .i64 (y : Int), .slice Ab (datOf gj).length cb', .slice Am (mksOf gj).length cm] : Array Value).toList[p]?) (by kernel_rfl) ⟨O9.drew.cell, N9.drew.cell, X9.drew.cell⟩ (fun hS => ?_)
        clear z9 yc9 zf9 yf9
        refine wpAnyH_take (i := 0) (oi := _) (v := ?_) rfl (by kernel_rfl) (by kernel_rfl) (by kernel_rfl) (fun _ _ _ h => h) (Or.inl ⟨by rfl, ?_⟩) hS ?_
        rotate_left
        · (intro w hSw; (try dsimp only at hSw); go_simp; (try with_reducible rfl))
        rotate_left
        simp only [Act.put, List.getElem_toArray, List.getElem_cons_zero, List.getElem_cons_succ, List.setIfInBounds_toArray, List.set_cons_zero, List.set_cons_succ]
        refine wpAnyH_take (i := 1) (oi := _) (v := ?_) rfl (by kernel_rfl) (by kernel_rfl) (by kernel_rfl) (fun _ _ _ h => h) (Or.inl ⟨by rfl, ?_⟩) hS ?_
        rotate_left
        · (intro w hSw; (try dsimp only at hSw); go_simp; (try with_reducible rfl))
        rotate_left
        simp only [Act.put, List.getElem_toArray, List.getElem_cons_zero, List.getElem_cons_succ, List.setIfInBounds_toArray, List.set_cons_zero, List.set_cons_succ]
        refine wpAnyH_take (i := 2) (oi := _) (v := ?_) rfl (by kernel_rfl) (by kernel_rfl) (by kernel_rfl) (fun _ _ _ h => h) (Or.inl ⟨by rfl, ?_⟩) hS ?_
        rotate_left
        · (intro w hSw; (try dsimp only at hSw); go_simp; (try with_reducible rfl))
        rotate_left
        simp only [Act.put, List.getElem_toArray, List.getElem_cons_zero, List.getElem_cons_succ, List.setIfInBounds_toArray, List.set_cons_zero, List.set_cons_succ]
        refine wpAnyH_take (i := 3) (oi := _) (v := ?_) rfl (by kernel_rfl) (by kernel_rfl) (by kernel_rfl) (fun _ _ _ h => h) (Or.inl ⟨by rfl, ?_⟩) hS ?_
        rotate_left
        · (intro w hSw; (try dsimp only at hSw); go_simp; (try with_reducible rfl))
        rotate_left
        simp only [Act.put, List.getElem_toArray, List.getElem_cons_zero, List.getElem_cons_succ, List.setIfInBounds_toArray, List.set_cons_zero, List.set_cons_succ]
        refine wpAnyH_take (i := 4) (oi := _) (v := ?_) rfl (by kernel_rfl) (by kernel_rfl) (by kernel_rfl) (fun _ _ _ h => h) (Or.inl ⟨by rfl, ?_⟩) hS ?_
        rotate_left
        · (intro w hSw; (try dsimp only at hSw); go_simp; (try with_reducible rfl))
        rotate_left
        simp only [Act.put, List.getElem_toArray, List.getElem_cons_zero, List.getElem_cons_succ, List.setIfInBounds_toArray, List.set_cons_zero, List.set_cons_succ]
        refine wpAnyH_take (i := 5) (oi := _) (v := ?_) rfl (by kernel_rfl) (by kernel_rfl) (by kernel_rfl) (fun _ _ _ h => h) (Or.inl ⟨by rfl, ?_⟩) hS ?_
        rotate_left
        · (intro w hSw; (try dsimp only at hSw); go_simp; (try with_reducible rfl))
        rotate_left
        simp only [Act.put, List.getElem_toArray, List.getElem_cons_zero, List.getElem_cons_succ, List.setIfInBounds_toArray, List.set_cons_zero, List.set_cons_succ]
        refine wpAnyH_take (i := 6) (oi := _) (v := ?_) rfl (by kernel_rfl) (by kernel_rfl) (by kernel_rfl) (fun _ _ _ h => h) (Or.inl ⟨by rfl, ?_⟩) hS ?_
        rotate_left
        · (intro w hSw; (try dsimp only at hSw); go_simp; (try with_reducible rfl))
        rotate_left
        simp only [Act.put, List.getElem_toArray, List.getElem_cons_zero, List.getElem_cons_succ, List.setIfInBounds_toArray, List.set_cons_zero, List.set_cons_succ]
        have Zd := Z9.drew
        have Yd := Y9.drew
        have Od := O9.drew
        have Nd := N9.drew
        have Xd := X9.drew
        have td := Ext.drew t9
        have HED := Lib.hid (HE.out.next (Ext.drew (Below.refl w9.heap.size w9)) (by have := T8.out.2; omega))
        have HDD := Lib.hid (HDAT.out.below (Ext.drew (Below.refl w9.heap.size w9)))
        have hld : Hid (w9.heap.size = w9.drew.heap.size) := rfl
        have hDW : Hid (∀ b : Nat, w9.drew.heap[b]? = w9.heap[b]?) := fun b => rfl
        clear Z9 Y9 O9 N9 X9 t9 HE HDAT
        generalize w9.drew = wd at *
        refine wpAnyH_ready (rs := [7]) (by kernel_rfl) (by simp) ?_
        refine AllReadyH.cons rfl (fun K hK => ?_) AllReadyH.nil
        rw [if_pos (by rfl)]
        have zf := Zd.free
        have zc := Zd.cell
        go_simp
        clear zf zc
        have hg3 : go ≠ w.heap.size + 3 := by have := HGO.out; have := HLW.out; omega
        have hg4 : go ≠ w.heap.size + 4 := by have := HGO.out; have := HLW.out; omega
        have hx3 : gx ≠ w.heap.size + 3 := by have := HGX.out; have := HLW.out; have := HL45.out; omega
        have hx4 : gx ≠ w.heap.size + 4 := by have := HGX.out; have := HLW.out; have := HL45.out; omega
        have Ze : BoxOf _ (w.heap.size + 3) #[.slice (some ⟨R, 0, none⟩) ys.length cR, .slice (some ⟨G, o, none⟩) (gs.eraseIdx j).length d'] 28 := mbox_self (mbox_self Zd 0 (.slice (some ⟨R, 0, none⟩) ys.length cR)) 1 (.slice (some ⟨G, o, none⟩) (gs.eraseIdx j).length d')
        have Ye := mbox_else (mbox_else Yd (show w.heap.size + 4 ≠ w.heap.size + 3 by omega) 0 (.slice (some ⟨R, 0, none⟩) ys.length cR)) (show w.heap.size + 4 ≠ w.heap.size + 3 by omega) 1 (.slice (some ⟨G, o, none⟩) (gs.eraseIdx j).length d')
        have Oe := mbox_else (mbox_else Od hg3 0 (.slice (some ⟨R, 0, none⟩) ys.length cR)) hg3 1 (.slice (some ⟨G, o, none⟩) (gs.eraseIdx j).length d')
        have Ne := mbox_else (mbox_else Nd (show w.heap.size + 2 ≠ w.heap.size + 3 by omega) 0 (.slice (some ⟨R, 0, none⟩) ys.length cR)) (show w.heap.size + 2 ≠ w.heap.size + 3 by omega) 1 (.slice (some ⟨G, o, none⟩) (gs.eraseIdx j).length d')
        have Xe := mbox_else (mbox_else Xd hx3 0 (.slice (some ⟨R, 0, none⟩) ys.length cR)) hx3 1 (.slice (some ⟨G, o, none⟩) (gs.eraseIdx j).length d')
        refine hK.out _ _ ⟨Oe.cell, Ne.cell, Xe.cell⟩ (fun hS' => ?_)
        clear hK K hS
        have hS := hS'
        clear hS'
        try simp only [Act.put, List.getElem_toArray, List.getElem_cons_zero, List.getElem_cons_succ, List.setIfInBounds_toArray, List.set_cons_zero, List.set_cons_succ]
        refine wpAnyH_ready (rs := [8]) (by kernel_rfl) (by simp) ?_
        refine AllReadyH.cons rfl (fun K hK => ?_) AllReadyH.nil
        rw [if_pos (by rfl)]
        have yf := Ye.free
        have yc := Ye.cell
        go_simp
        clear yf yc
        have Yf : BoxOf _ (w.heap.size + 4) #[.int .i64 number, .int .i64 0, .slice DD dat.length dq, .int .i64 (y : Int)] 53 := mbox_self (mbox_self (mbox_self (mbox_self Ye 0 (.int .i64 number)) 1 (.int .i64 0)) 2 (.slice DD dat.length dq)) 3 (.int .i64 (y : Int))
        have Zf := mbox_else (mbox_else (mbox_else (mbox_else Ze (show w.heap.size + 3 ≠ w.heap.size + 4 by omega) 0 (.int .i64 number)) (show w.heap.size + 3 ≠ w.heap.size + 4 by omega) 1 (.int .i64 0)) (show w.heap.size + 3 ≠ w.heap.size + 4 by omega) 2 (.slice DD dat.length dq)) (show w.heap.size + 3 ≠ w.heap.size + 4 by omega) 3 (.int .i64 (y : Int))
        have Of := mbox_else (mbox_else (mbox_else (mbox_else Oe hg4 0 (.int .i64 number)) hg4 1 (.int .i64 0)) hg4 2 (.slice DD dat.length dq)) hg4 3 (.int .i64 (y : Int))
        have Nf := mbox_else (mbox_else (mbox_else (mbox_else Ne (show w.heap.size + 2 ≠ w.heap.size + 4 by omega) 0 (.int .i64 number)) (show w.heap.size + 2 ≠ w.heap.size + 4 by omega) 1 (.int .i64 0)) (show w.heap.size + 2 ≠ w.heap.size + 4 by omega) 2 (.slice DD dat.length dq)) (show w.heap.size + 2 ≠ w.heap.size + 4 by omega) 3 (.int .i64 (y : Int))
        have Xf := mbox_else (mbox_else (mbox_else (mbox_else Xe hx4 0 (.int .i64 number)) hx4 1 (.int .i64 0)) hx4 2 (.slice DD dat.length dq)) hx4 3 (.int .i64 (y : Int))
        have tf := Below.setCell (p := ⟨w.heap.size + 4, 3, none⟩) (Below.setCell (p := ⟨w.heap.size + 4, 2, none⟩) (Below.setCell (p := ⟨w.heap.size + 4, 1, none⟩) (Below.setCell (p := ⟨w.heap.size + 4, 0, none⟩) (Below.setCell (p := ⟨w.heap.size + 3, 1, none⟩) (Below.setCell (p := ⟨w.heap.size + 3, 0, none⟩) td (show w.heap.size ≤ w.heap.size + 3 by omega) (.slice (some ⟨R, 0, none⟩) ys.length cR)) (show w.heap.size ≤ w.heap.size + 3 by omega) (.slice (some ⟨G, o, none⟩) (gs.eraseIdx j).length d')) (show w.heap.size ≤ w.heap.size + 4 by omega) (.int .i64 number)) (show w.heap.size ≤ w.heap.size + 4 by omega) (.int .i64 0)) (show w.heap.size ≤ w.heap.size + 4 by omega) (.slice DD dat.length dq)) (show w.heap.size ≤ w.heap.size + 4 by omega) (.int .i64 (y : Int))
        refine hK.out _ _ ⟨Of.cell, Nf.cell, Xf.cell⟩ (fun hS' => ?_)
        clear hK K hS
        have hS := hS'
        clear hS'
        try simp only [Act.put, List.getElem_toArray, List.getElem_cons_zero, List.getElem_cons_succ, List.setIfInBounds_toArray, List.set_cons_zero, List.set_cons_succ]
        refine wpAnyH_take (i := 9) (oi := _) (v := ?_) rfl (by kernel_rfl) (by kernel_rfl) (by kernel_rfl) (fun _ _ _ h => h) (Or.inl ⟨by rfl, ?_⟩) hS ?_
        rotate_left
        · (intro w hSw; (try dsimp only at hSw); go_simp; (try with_reducible rfl))
        rotate_left
        simp only [Act.put, List.getElem_toArray, List.getElem_cons_zero, List.getElem_cons_succ, List.setIfInBounds_toArray, List.set_cons_zero, List.set_cons_succ]
        refine wpAnyH_done (by kernel_rfl) ?_ _
        clear hS
        go_wp2
        obtain ⟨p1, p2, p3⟩ := endAll_ok HOK.out HJ.out HSOME.out
        obtain ⟨By3, s1, s2, s3, s4, s5, s6⟩ := HED.out
        have hfr : ∀ b : Nat, lo ≤ b → ((((((wd.setCell ⟨w.heap.size + 3, 0, none⟩ (.slice (some ⟨R, 0, none⟩) ys.length cR)).setCell ⟨w.heap.size + 3, 1, none⟩ (.slice (some ⟨G, o, none⟩) (gs.eraseIdx j).length d')).setCell ⟨w.heap.size + 4, 0, none⟩ (.int .i64 number)).setCell ⟨w.heap.size + 4, 1, none⟩ (.int .i64 0)).setCell ⟨w.heap.size + 4, 2, none⟩ (.slice DD dat.length dq)).setCell ⟨w.heap.size + 4, 3, none⟩ (.int .i64 (y : Int))).heap[b]? = wd.heap[b]? := by
          intro b hb
          have := HLW.out
          rw [Below.heap_setCell _ _ _ _ (show b ≠ w.heap.size + 4 from fun e => by have := HLW.out; omega), Below.heap_setCell _ _ _ _ (show b ≠ w.heap.size + 4 from fun e => by have := HLW.out; omega), Below.heap_setCell _ _ _ _ (show b ≠ w.heap.size + 4 from fun e => by have := HLW.out; omega), Below.heap_setCell _ _ _ _ (show b ≠ w.heap.size + 4 from fun e => by have := HLW.out; omega), Below.heap_setCell _ _ _ _ (show b ≠ w.heap.size + 3 from fun e => by have := HLW.out; omega), Below.heap_setCell _ _ _ _ (show b ≠ w.heap.size + 3 from fun e => by have := HLW.out; omega)]
        have hsz : ((((((wd.setCell ⟨w.heap.size + 3, 0, none⟩ (.slice (some ⟨R, 0, none⟩) ys.length cR)).setCell ⟨w.heap.size + 3, 1, none⟩ (.slice (some ⟨G, o, none⟩) (gs.eraseIdx j).length d')).setCell ⟨w.heap.size + 4, 0, none⟩ (.int .i64 number)).setCell ⟨w.heap.size + 4, 1, none⟩ (.int .i64 0)).setCell ⟨w.heap.size + 4, 2, none⟩ (.slice DD dat.length dq)).setCell ⟨w.heap.size + 4, 3, none⟩ (.int .i64 (y : Int))).heap.size = wd.heap.size := by
          rw [msize, msize, msize, msize, msize, msize]
        have hbl : w.heap.size ≤ lo := by have := HLW.out; omega
        have RY := (s4.rdin (cR := cR) (by rw [p2]; exact HCR.out) p1.short s2 (fun i hi => Nat.le_trans (p1.row hi).2.1 (by decide))).rest hsz hfr hbl
        have RG := (s5.rdin (by rw [p3]; have := HD'.out; have := HLE.out; omega) (Nat.le_trans p1.few (by decide)) s2).rest hsz hfr hbl
        have RD : RdIn _ (NewB w.heap.size _) (.sl .byte) dat [.slice DD dat.length dq] := RdIn.rest (HDD.out.mono (S' := NewB lo wd) fun b hb => newB_next hb (by have := hld.out; omega) (hDW.out b)) hsz hfr hbl
        rw [p2] at RY
        rw [p3] at RG
        exact bodyPost_ret (v := .tuple #[.agg #[.slice (some ⟨R, 0, none⟩) ys.length cR, .slice (some ⟨G, o, none⟩) (gs.eraseIdx j).length d'], .agg #[.int .i64 number, .int .i64 0, .slice DD dat.length dq, .int .i64 (y : Int)], .int .i64 0]) (Eq.trans (results_rows3 (P := Try.prog) (fn := Try.f23) (p := 6) (q := 7) (u := 8) rfl _ _ (w.heap.size + 3) 28 _ (w.heap.size + 4) 53 _ rfl rfl Zf Yf _ _ Try.underlying28 Try.underlying53 rfl rfl (by kernel_rfl) (by kernel_rfl)) rfl) rfl ⟨⟨0, tt.1, tt.2, number, dat, (y : Int), some ⟨R, 0, none⟩, cR, some ⟨G, o, none⟩, d', DD, dq, by rw [p2, p3], .inr (.inr (.inr ⟨HOK.out, ⟨j, HJ.out, by obtain ⟨_, h⟩ := HNU.out; exact h, HSOME.out, by rw [HGJ.out]; exact HHY.out.symm⟩, rfl, rfl⟩)), by rw [p2]; exact RY, by rw [p3]; exact RG, RD⟩, tf⟩
    · have HNO : Hid (∀ j (h : j < gs.length), ¬ nuOf gs[j] = number) := fun j hj => numE_ne.1 (hnone j hj)
      clear hnone
      go_wp2
      have B5 := mbox_self (mbox_self Z5 0 (.slice none 0 0)) 1 (.slice none 0 0)
      have B6 := mbox_self (mbox_self (mbox_self (mbox_self (mbox_else (mbox_else Y5 (show w.heap.size + 4 ≠ w.heap.size + 3 by omega) 0 (.slice none 0 0)) (show w.heap.size + 4 ≠ w.heap.size + 3 by omega) 1 (.slice none 0 0)) 0 (.int .i64 0)) 1 (.int .i64 0)) 2 (.slice none 0 0)) 3 (.int .i64 0)
      have B7 := mbox_else (mbox_else (mbox_else (mbox_else B5 (show w.heap.size + 3 ≠ w.heap.size + 4 by omega) 0 (.int .i64 0)) (show w.heap.size + 3 ≠ w.heap.size + 4 by omega) 1 (.int .i64 0)) (show w.heap.size + 3 ≠ w.heap.size + 4 by omega) 2 (.slice none 0 0)) (show w.heap.size + 3 ≠ w.heap.size + 4 by omega) 3 (.int .i64 0)
      have T5 := Below.setCell (p := ⟨w.heap.size + 4, 3, none⟩) (Below.setCell (p := ⟨w.heap.size + 4, 2, none⟩) (Below.setCell (p := ⟨w.heap.size + 4, 1, none⟩) (Below.setCell (p := ⟨w.heap.size + 4, 0, none⟩) (Below.setCell (p := ⟨w.heap.size + 3, 1, none⟩) (Below.setCell (p := ⟨w.heap.size + 3, 0, none⟩) t5 (show w.heap.size ≤ w.heap.size + 3 by omega) (.slice none 0 0)) (show w.heap.size ≤ w.heap.size + 3 by omega) (.slice none 0 0)) (show w.heap.size ≤ w.heap.size + 4 by omega) (.int .i64 0)) (show w.heap.size ≤ w.heap.size + 4 by omega) (.int .i64 0)) (show w.heap.size ≤ w.heap.size + 4 by omega) (.slice none 0 0)) (show w.heap.size ≤ w.heap.size + 4 by omega) (.int .i64 0)
      exact bodyPost_ret (v := .tuple #[.agg #[.slice none 0 0, .slice none 0 0], .agg #[.int .i64 0, .int .i64 0, .slice none 0 0, .int .i64 0], .int .i64 6]) (Eq.trans (results_rows3 (P := Try.prog) (fn := Try.f23) (p := 6) (q := 7) (u := 8) rfl _ _ (w.heap.size + 3) 28 #[.slice none 0 0, .slice none 0 0] (w.heap.size + 4) 53 #[.int .i64 0, .int .i64 0, .slice none 0 0, .int .i64 0] rfl rfl B7 B6 _ _ Try.underlying28 Try.underlying53 rfl rfl (by kernel_rfl) (by kernel_rfl)) rfl) rfl ⟨EndIs.err (.inr (.inl ⟨HOK.out, HNO.out, rfl, rfl, rfl, rfl, rfl, rfl⟩)), T5⟩
  · have c1 := C1.cell
    have p1 := P1.cell
    have n1 := N1.cell
    have z1 := Z1.cell
    have zf1 := Z1.free
    have yc1 := Y1.cell
    have yf1 := Y1.free
    go_wp2
    have B5 := mbox_self (mbox_self Z1 0 (.slice none 0 0)) 1 (.slice none 0 0)
    have B6 := mbox_self (mbox_self (mbox_self (mbox_self (mbox_else (mbox_else Y1 (show w.heap.size + 4 ≠ w.heap.size + 3 by omega) 0 (.slice none 0 0)) (show w.heap.size + 4 ≠ w.heap.size + 3 by omega) 1 (.slice none 0 0)) 0 (.int .i64 0)) 1 (.int .i64 0)) 2 (.slice none 0 0)) 3 (.int .i64 0)
    have B7 := mbox_else (mbox_else (mbox_else (mbox_else B5 (show w.heap.size + 3 ≠ w.heap.size + 4 by omega) 0 (.int .i64 0)) (show w.heap.size + 3 ≠ w.heap.size + 4 by omega) 1 (.int .i64 0)) (show w.heap.size + 3 ≠ w.heap.size + 4 by omega) 2 (.slice none 0 0)) (show w.heap.size + 3 ≠ w.heap.size + 4 by omega) 3 (.int .i64 0)
    have T5 := Below.setCell (p := ⟨w.heap.size + 4, 3, none⟩) (Below.setCell (p := ⟨w.heap.size + 4, 2, none⟩) (Below.setCell (p := ⟨w.heap.size + 4, 1, none⟩) (Below.setCell (p := ⟨w.heap.size + 4, 0, none⟩) (Below.setCell (p := ⟨w.heap.size + 3, 1, none⟩) (Below.setCell (p := ⟨w.heap.size + 3, 0, none⟩) t1 (show w.heap.size ≤ w.heap.size + 3 by omega) (.slice none 0 0)) (show w.heap.size ≤ w.heap.size + 3 by omega) (.slice none 0 0)) (show w.heap.size ≤ w.heap.size + 4 by omega) (.int .i64 0)) (show w.heap.size ≤ w.heap.size + 4 by omega) (.int .i64 0)) (show w.heap.size ≤ w.heap.size + 4 by omega) (.slice none 0 0)) (show w.heap.size ≤ w.heap.size + 4 by omega) (.int .i64 0)
    exact bodyPost_ret (v := .tuple #[.agg #[.slice none 0 0, .slice none 0 0], .agg #[.int .i64 0, .int .i64 0, .slice none 0 0, .int .i64 0], .int .i64 8]) (Eq.trans (results_rows3 (P := Try.prog) (fn := Try.f23) (p := 6) (q := 7) (u := 8) rfl _ _ (w.heap.size + 3) 28 #[.slice none 0 0, .slice none 0 0] (w.heap.size + 4) 53 #[.int .i64 0, .int .i64 0, .slice none 0 0, .int .i64 0] rfl rfl B7 B6 _ _ Try.underlying28 Try.underlying53 rfl rfl (by kernel_rfl) (by kernel_rfl)) rfl) rfl ⟨EndIs.err (.inl ⟨hno, rfl, rfl, rfl, rfl, rfl, rfl⟩), T5⟩
end Go.Proofs.Ytclbihcggjjgaaa
/- Layer 30 (model), plainly: what each block has behind a request's end; what a crash may leave then. -/
namespace Go.Proofs.Ytclbihcggjjgaaa
open Go Go.RowKit
set_option linter.unusedVariables false

/-! ### rows -/
theorem getD_set_self {ys : Ys} {b : Nat} (h : b < ys.length) (z : List (List UInt8)) : (ys.set b z).getD b [] = z := by
  rw [List.getD_eq_getElem?_getD, List.getElem?_set_self h]; rfl
theorem getD_set_ne {ys : Ys} {b c : Nat} (h : b ≠ c) (z : List (List UInt8)) : (ys.set b z).getD c [] = ys.getD c [] := by
  rw [List.getD_eq_getElem?_getD, List.getElem?_set_ne h, ← List.getD_eq_getElem?_getD]
theorem putS_row {k : Int} {b : Nat} {v : List UInt8} {s : Ys × List GoTy.T} (hb : b < s.1.length) (c : Nat) : (putS k b v s).1.getD c [] = if c = b then (if k = 3 then [v] else s.1.getD b [] ++ [v]) else s.1.getD c [] := by
  by_cases hk : k = 3
  · subst hk
    rw [put_fua hb]
    simp only [if_true]
    by_cases hc : c = b
    · subst hc; rw [if_pos rfl, getD_set_self hb]
    · rw [if_neg hc, getD_set_ne (fun e => hc e.symm)]
  · have e : putS k b v s = (pushY b v s.1, s.2) := by unfold putS; rw [if_neg hk]
    rw [e]
    simp only [if_neg hk]
    unfold pushY
    by_cases hc : c = b
    · subst hc; rw [if_pos rfl, getD_set_self hb]
    · rw [if_neg hc, getD_set_ne (fun e => hc e.symm)]
def rowAt (k : Int) (bs : List UInt8) (a i : Nat) (s : Ys × List GoTy.T) (c : Nat) : List (List UInt8) :=
  if kWrites k = true ∧ a ≤ c ∧ c < a + i then (if k = 3 then [blk k bs (c - a)] else s.1.getD c [] ++ [blk k bs (c - a)]) else s.1.getD c []
theorem endS_row {k : Int} {bs : List UInt8} {a : Nat} {s : Ys × List GoTy.T} : ∀ i, a + i ≤ s.1.length → ∀ t, endS k bs a i s = some t → t.1.1.length = s.1.length ∧ ∀ c, t.1.1.getD c [] = rowAt k bs a i s c
  | 0, _, t, ht => by
    obtain rfl := Option.some.inj ht
    refine ⟨rfl, fun c => ?_⟩
    unfold rowAt
    rw [if_neg (by omega)]
  | i + 1, hi, t, ht => by
    obtain ⟨t', h1, h2⟩ := Option.bind_eq_some_iff.1 (show (endS k bs a i s).bind (stepS k bs a i) = some t from ht)
    obtain ⟨k1, k2⟩ := endS_row i (by omega) t' h1
    unfold stepS at h2
    split at h2
    · rename_i hw
      split at h2
      · cases h2
      · obtain rfl := Option.some.inj h2
        refine ⟨by rw [(putS_len _ _ _ _).1]; exact k1, fun c => ?_⟩
        show (putS k (a + i) (blk k bs i) t'.1).1.getD c [] = _
        have hb : a + i < t'.1.1.length := by rw [k1]; omega
        rw [putS_row hb]
        by_cases hc : c = a + i
        · subst hc
          have e1 : rowAt k bs a i s (a + i) = s.1.getD (a + i) [] := by unfold rowAt; rw [if_neg (by omega)]
          have e2 : rowAt k bs a (i + 1) s (a + i) = if k = 3 then [blk k bs i] else s.1.getD (a + i) [] ++ [blk k bs i] := by
            unfold rowAt
            rw [if_pos ⟨hw, by omega, by omega⟩, show a + i - a = i by omega]
          rw [if_pos rfl, k2 (a + i), e1, e2]
        · rw [if_neg hc, k2 c]
          unfold rowAt
          by_cases hin : kWrites k = true ∧ a ≤ c ∧ c < a + i
          · rw [if_pos hin, if_pos (show kWrites k = true ∧ a ≤ c ∧ c < a + (i + 1) from ⟨hin.1, hin.2.1, by omega⟩)]
          · rw [if_neg hin, if_neg (fun h => hin ⟨h.1, h.2.1, by omega⟩)]
    · rename_i hw
      obtain rfl := Option.some.inj h2
      refine ⟨k1, fun c => ?_⟩
      show t'.1.1.getD c [] = _
      rw [k2]
      unfold rowAt
      rw [if_neg (fun h => hw h.1), if_neg (fun h => hw h.1)]

/-! ### hits -/
theorem someIs_map {α : Type} {p : α → Bool} {l : List α} : SomeIs p l ↔ true ∈ l.map p := by
  rw [List.mem_map]
  constructor
  · rintro ⟨i, hi, h⟩
    exact ⟨l[i], List.getElem_mem hi, h⟩
  · rintro ⟨x, hx, h⟩
    obtain ⟨i, hi, rfl⟩ := List.getElem_of_mem hx
    exact ⟨i, hi, h⟩
theorem hits_drop (b many : Nat) (n : Int) (ds : List UInt8) (gs : List GoTy.T) : (dropG b many gs).map (hitB n ds) = gs.map (hitB n ds) := by
  unfold dropG
  rw [List.map_map]
  congr 1
  funext g
  exact dropMk_hit b many n ds g
theorem hits_marks (ms : List Int) (n : Int) (ds : List UInt8) (s : Ys × List GoTy.T) : ∀ j, (marksS ms j s).2.map (hitB n ds) = s.2.map (hitB n ds)
  | 0 => rfl
  | j + 1 => by
    show (dropG j (ms.getD j 0).toNat (marksS ms j s).2).map (hitB n ds) = _
    rw [hits_drop, hits_marks ms n ds s j]
theorem hits_put (k : Int) (b : Nat) (v : List UInt8) (n : Int) (ds : List UInt8) (s : Ys × List GoTy.T) : (putS k b v s).2.map (hitB n ds) = s.2.map (hitB n ds) := by
  unfold putS
  split
  · exact hits_drop _ _ _ _ _
  · rfl
theorem hits_end {k : Int} {bs : List UInt8} {a : Nat} (n : Int) (ds : List UInt8) {s : Ys × List GoTy.T} : ∀ i t, endS k bs a i s = some t → t.1.2.map (hitB n ds) = s.2.map (hitB n ds)
  | 0, t, ht => by obtain rfl := Option.some.inj ht; rfl
  | i + 1, t, ht => by
    obtain ⟨t', h1, h2⟩ := Option.bind_eq_some_iff.1 (show (endS k bs a i s).bind (stepS k bs a i) = some t from ht)
    have h3 := hits_end n ds i t' h1
    unfold stepS at h2
    split at h2
    · split at h2
      · cases h2
      · obtain rfl := Option.some.inj h2
        show (putS k (a + i) (blk k bs i) t'.1).2.map (hitB n ds) = _
        rw [hits_put, h3]
    · obtain rfl := Option.some.inj h2
      exact h3

/-! ### what End leaves -/
structure EndAt (x : Cfg) (ys : Ys) (gs : List GoTy.T) (g : GoTy.T) (zs : Ys) (hs : List GoTy.T) (dat : List UInt8) (j a y : Nat) : Prop where
  ha : atOf g = (a : Int)
  hy : manyOf g = (y : Int)
  few : y ≤ 8
  fit : a + y ≤ ys.length
  bytes : kBytes ((kiOf g).toNat : Int) = true → y * 128 ≤ (datOf g).length
  none4 : ((kiOf g).toNat : Int) = 4 → y = 0
  write1 : kWrites ((kiOf g).toNat : Int) = true → 1 ≤ y
  marks : (((kiOf g).toNat : Int) = 4 ∧ (mksOf g).length = ys.length) ∨ (¬ ((kiOf g).toNat : Int) = 4 ∧ mksOf g = [])
  mark : ∀ q (hq : q < (mksOf g).length), ∃ hq' : q < ys.length, 0 ≤ (mksOf g)[q] ∧ (mksOf g)[q] < ((ys[q]).length : Int)
  ok : PlainOk x zs hs
  len : zs.length = ys.length
  hlen : hs.length = (gs.eraseIdx j).length
  row : ∀ c, zs.getD c [] = rowAt ((kiOf g).toNat : Int) (datOf g) a y (marksS (mksOf g) (mksOf g).length (ys, gs.eraseIdx j)) c
  mrow : ∀ q, (marksS (mksOf g) (mksOf g).length (ys, gs.eraseIdx j)).1.getD q [] = (ys.getD q []).drop ((mksOf g).getD q 0).toNat
  hits : ∀ n ds, hs.map (hitB n ds) = (gs.eraseIdx j).map (hitB n ds)
  data : endS ((kiOf g).toNat : Int) (datOf g) a y (marksS (mksOf g) (mksOf g).length (ys, gs.eraseIdx j)) = some ((zs, hs), dat)
theorem endAll_at {x : Cfg} {ys : Ys} {gs : List GoTy.T} (h : PlainOk x ys gs) {j : Nat} (hj : j < gs.length) {zs : Ys} {hs : List GoTy.T} {dat : List UInt8} (he : endAll ys gs j = some ((zs, hs), dat)) : ∃ a y, EndAt x ys gs gs[j] zs hs dat j a y := by
  obtain ⟨o1, o2, o3⟩ := endAll_ok h hj he
  have hone := (h.goes j hj).1
  obtain ⟨aok1, aok2, aok3, aok4, aok5, aok6⟩ := askCode_0 hone.2.1
  obtain ⟨a, ha⟩ : ∃ a : Nat, atOf gs[j] = (a : Int) := ⟨(atOf gs[j]).toNat, by omega⟩
  obtain ⟨y, hy⟩ : ∃ y : Nat, manyOf gs[j] = (y : Int) := ⟨(manyOf gs[j]).toNat, by omega⟩
  have hl := h.len
  have hm := h.marks hj
  unfold endAll at he
  rw [List.getElem?_eq_getElem hj] at he
  have he' : endS ((kiOf gs[j]).toNat : Int) (datOf gs[j]) (atOf gs[j]).toNat (manyOf gs[j]).toNat (marksS (mksOf gs[j]) (mksOf gs[j]).length (ys, gs.eraseIdx j)) = some ((zs, hs), dat) := he
  rw [ha, hy, Int.toNat_natCast, Int.toNat_natCast] at he'
  have hml : (mksOf gs[j]).length ≤ ys.length := by
    rcases hm.1 with e | e
    · rw [e]; exact Nat.zero_le _
    · exact Nat.le_of_eq e
  obtain ⟨m1, m2, m3, m4, m5⟩ := marksS_ok (s := (ys, gs.eraseIdx j)) (h.erase hj) hml hm.2 _ (Nat.le_refl _)
  have hfit : a + y ≤ ys.length := by
    unfold Placed at aok2
    rw [ha, hy] at aok2
    rcases aok2 with h2 | h2
    · have := h2.2.2.2.2; omega
    · have := h2.2.2; omega
  obtain ⟨r1, r2⟩ := endS_row y (by rw [m2]; exact hfit) _ he'
  refine ⟨a, y, ha, hy, by omega, hfit, fun hk => ?_, fun hk => ?_, fun hk => ?_, ?_, hm.2, o1, o2, o3, r2, fun q => ?_, fun n ds => ?_, he'⟩
  · unfold kWant at aok3
    rw [if_pos hk] at aok3
    omega
  · unfold Placed at aok2
    rw [hk] at aok2
    rcases aok2 with h2 | h2
    · exact absurd h2.1 (by decide)
    · have := h2.2.2.2; omega
  · rcases aok6 with h6 | h6
    · omega
    · rw [hk] at h6; cases h6
  · have h3 := hone.2.2
    unfold MarksOk at h3
    split at h3
    · rename_i hk; exact .inl ⟨hk, h3.1⟩
    · rename_i hk; exact .inr ⟨hk, List.eq_nil_of_length_eq_zero h3⟩
  · by_cases hq : q < (mksOf gs[j]).length
    · exact m5 q hq
    · rw [m4 q (by omega)]
      have e : (mksOf gs[j]).getD q 0 = 0 := by rw [List.getD_eq_getElem?_getD, List.getElem?_eq_none (by omega)]; rfl
      rw [e]
      rfl
  · exact (hits_end n ds y _ he').trans (hits_marks _ n ds _ _)

/-! ### what may be left -/
theorem leftP_row {zs : Ys} {hs : List GoTy.T} {n : Nat} {ds : List UInt8} (hn : n < zs.length) : LeftP zs hs n ds ↔ ds ∈ zs.getD n [] ∨ true ∈ hs.map (hitB n ds) := by
  unfold LeftP
  rw [getD_lt hn]
  constructor
  · rintro (⟨_, h⟩ | h)
    · left
      rw [someIs_map, List.mem_map] at h
      obtain ⟨z, hz, he⟩ := h
      unfold eqBs at he
      rw [beq_iff_eq] at he
      rw [← he]; exact hz
    · exact .inr (someIs_map.1 h)
  · rintro (h | h)
    · exact .inl ⟨hn, someIs_map.2 (List.mem_map.2 ⟨ds, h, by unfold eqBs; simp⟩)⟩
    · exact .inr (someIs_map.2 h)
theorem mem_erase_hit {gs : List GoTy.T} {j : Nat} (hj : j < gs.length) {n : Int} {ds : List UInt8} (h : true ∈ (gs.eraseIdx j).map (hitB n ds)) : true ∈ gs.map (hitB n ds) := by
  rw [List.mem_map] at h ⊢
  obtain ⟨g, hg, e⟩ := h
  exact ⟨g, List.mem_of_mem_eraseIdx hg, e⟩
section
variable {x : Cfg} {ys : Ys} {gs : List GoTy.T} {g : GoTy.T} {zs : Ys} {hs : List GoTy.T} {dat : List UInt8} {j a y : Nat}
/-- nothing else comes -/
theorem EndAt.left (h : EndAt x ys gs g zs hs dat j a y) (hj : j < gs.length) (hg : gs[j] = g) {n : Nat} (hn : n < ys.length) {ds : List UInt8} (hl : LeftP zs hs n ds) : LeftP ys gs n ds := by
  have hn' : n < zs.length := by rw [h.len]; exact hn
  rw [leftP_row hn'] at hl
  rw [leftP_row hn]
  rcases hl with hl | hl
  · rw [h.row] at hl
    unfold rowAt at hl
    have hdrop : ∀ ds, ds ∈ (marksS (mksOf g) (mksOf g).length (ys, gs.eraseIdx j)).1.getD n [] → ds ∈ ys.getD n [] := fun ds hd => by
      rw [h.mrow] at hd
      exact List.mem_of_mem_drop hd
    split at hl
    · rename_i hw
      have hhit : ds = blk ((kiOf g).toNat : Int) (datOf g) (n - a) → true ∈ gs.map (hitB n ds) := fun e => by
        refine List.mem_map.2 ⟨g, by rw [← hg]; exact List.getElem_mem hj, ?_⟩
        unfold hitB
        rw [h.ha, h.hy, hw.1, decide_eq_true (show (a : Int) ≤ (n : Int) by omega), decide_eq_true (show (n : Int) < (a : Int) + (y : Int) by omega)]
        have e2 : ((n : Int) - (a : Int)).toNat = n - a := by omega
        rw [e2, e]
        simp
      split at hl
      · exact .inr (hhit (List.mem_singleton.1 hl))
      · rcases List.mem_append.1 hl with hl | hl
        · exact .inl (hdrop _ hl)
        · exact .inr (hhit (List.mem_singleton.1 hl))
    · exact .inl (hdrop _ hl)
  · rw [h.hits] at hl
    exact .inr (mem_erase_hit hj hl)
end
end Go.Proofs.Ytclbihcggjjgaaa
/- Layer 30 (model), plainly: behind a beginning, and behind a crash, a plain array may be; what each block has last. -/
namespace Go.Proofs.Ytclbihcggjjgaaa
open Go Go.RowKit
set_option linter.unusedVariables false

theorem ki_four {ki : UInt8} : ((ki.toNat : Nat) : Int) = 4 ↔ ki = 4 := by
  constructor
  · intro h
    have : ki.toNat = 4 := by omega
    exact UInt8.toNat_inj.1 (this.trans rfl)
  · intro h; subst h; rfl
theorem PlainOk.begin {x : Cfg} {ys : Ys} {gs : List GoTy.T} (h : PlainOk x ys gs) {number : Int} {ki : UInt8} {a y : Int} {bs : List UInt8} (hc : askCode x ((ki.toNat : Nat) : Int) a y bs.length = 0) (hn : 1 ≤ number ∧ ¬ SomeIs (numB number) gs) (hl : ¬ gs.length = 8) : PlainOk x ys (gs ++ [newGo number ki a y bs ys]) where
  cfg := h.cfg
  len := h.len
  few := by rw [List.length_append, List.length_singleton]; have := h.few; omega
  vals := h.vals
  goes := fun i hi => by
    rw [List.length_append, List.length_singleton] at hi
    by_cases hi2 : i < gs.length
    · have e : (gs ++ [newGo number ki a y bs ys])[i]'(by rw [List.length_append, List.length_singleton]; omega) = gs[i] := List.getElem_append_left hi2
      rw [e]
      refine ⟨(h.goes i hi2).1, fun h5 h6 => ?_⟩
      have e2 : (gs ++ [newGo number ki a y bs ys])[i - 1] = gs[i - 1]'(by omega) := List.getElem_append_left (by omega)
      rw [e2]
      exact (h.goes i hi2).2 (by omega) h6
    · have hie : i = gs.length := by omega
      subst hie
      have e : (gs ++ [newGo number ki a y bs ys])[gs.length]'(by rw [List.length_append, List.length_singleton]; omega) = newGo number ki a y bs ys := by
        rw [List.getElem_append_right (Nat.le_refl _)]; simp
      rw [e]
      refine ⟨⟨hn.1, hc, ?_⟩, fun h5 h6 => ?_⟩
      · show MarksOk ((ki.toNat : Nat) : Int) (mkOf ki ys) ys
        unfold MarksOk mkOf
        by_cases hk : ki = 4
        · rw [if_pos (ki_four.2 hk), if_pos hk]
          refine ⟨lastOf_len ys, fun q hq hq' => ?_⟩
          have e3 : (lastOf ys)[q] = ((ys[q]).length : Int) - 1 := by
            have e4 : (lastOf ys)[q]? = some (((ys[q]).length : Int) - 1) := by unfold lastOf; rw [List.getElem?_map, List.getElem?_eq_getElem hq']; rfl
            rw [List.getElem?_eq_getElem hq] at e4
            exact Option.some.inj e4
          rw [e3]
          have := (h.row hq').1
          omega
        · rw [if_neg (fun e => hk (ki_four.1 e)), if_neg hk]
          rfl
      · have e2 : (gs ++ [newGo number ki a y bs ys])[gs.length - 1] = gs[gs.length - 1]'(by omega) := List.getElem_append_left (by omega)
        rw [e2]
        show nuOf gs[gs.length - 1] < number
        by_cases h9 : number ≤ nuOf (gs[gs.length - 1]'(by omega))
        · exact absurd ⟨gs.length - 1, by omega, decide_eq_true h9⟩ hn.2
        · omega
theorem BegRel.ok {x : Cfg} {ys : Ys} {gs : List GoTy.T} {number : Int} {ki : UInt8} {a y : Int} {bs : List UInt8} {zs : Ys} {hs : List GoTy.T} (h : BegRel x ys gs number ki a y bs 0 zs hs) : zs = ys ∧ hs = gs ++ [newGo number ki a y bs ys] ∧ PlainOk x zs hs ∧ askCode x ((ki.toNat : Nat) : Int) a y bs.length = 0 := by
  rcases h with h | h | h | h | h
  · have := h.2.1; omega
  · exact absurd h.2.2.1.symm h.2.1
  · have := h.2.2.2.1; omega
  · have := h.2.2.2.2.1; omega
  · obtain ⟨h1, h2, h3, h4, _, rfl, rfl⟩ := h
    exact ⟨rfl, rfl, h1.begin h2 h3 h4, h2⟩
theorem BegRel.zero {x : Cfg} {ys : Ys} {gs : List GoTy.T} {number : Int} {ki : UInt8} {a y : Int} {bs : List UInt8} {v : Int} {zs : Ys} {hs : List GoTy.T} (h : BegRel x ys gs number ki a y bs v zs hs) (hp : PlainOk x ys gs) (hc : askCode x ((ki.toNat : Nat) : Int) a y bs.length = 0) (hn : 1 ≤ number ∧ ¬ SomeIs (numB number) gs) (hl : ¬ gs.length = 8) : v = 0 ∧ zs = ys ∧ hs = gs ++ [newGo number ki a y bs ys] := by
  rcases h with h | h | h | h | h
  · exact absurd hp h.1
  · exact absurd hc h.2.1
  · exact absurd hn h.2.2.1
  · exact absurd h.2.2.2.1 hl
  · exact ⟨h.2.2.2.2.1, h.2.2.2.2.2.1, h.2.2.2.2.2.2⟩
theorem EndRel.zero {x : Cfg} {ys : Ys} {gs : List GoTy.T} {number v : Int} {zs : Ys} {hs : List GoTy.T} {rn : Int} {dat : List UInt8} {many : Int} (h : EndRel x ys gs number v zs hs rn dat many) (hp : PlainOk x ys gs) {j : Nat} (hj : j < gs.length) (hn : nuOf gs[j] = number) {t : (Ys × List GoTy.T) × List UInt8} (ht : endAll ys gs j = some t) : v = 0 ∧ zs = t.1.1 ∧ hs = t.1.2 ∧ rn = number ∧ dat = t.2 ∧ many = manyOf gs[j] := by
  have h2 : EndRel x ys gs number 0 t.1.1 t.1.2 number t.2 (manyOf gs[j]) := .inr (.inr (.inr ⟨hp, ⟨j, hj, hn, ht, rfl⟩, rfl, rfl⟩))
  obtain ⟨a, b, c, d, e, f⟩ := h.one h2
  exact ⟨a, b, c, d, e, f⟩
theorem CrashRel.ok {x : Cfg} {ys : Ys} {gs : List GoTy.T} {bl : List (List UInt8)} (h : CrashRel x ys gs bl 0) : bl.length = ys.length ∧ PlainOk x (ones bl) [] := by
  rcases h with h | h | h | h | h
  · have := h.2; omega
  · have := h.2.2; omega
  · have := h.2.2.2; omega
  · have := h.2.2.2.2; omega
  · exact ⟨h.2.1, ones_plain h.1 h.2.1 h.2.2.1⟩

/-! ### what each block has last -/
def lastV (ys : Ys) (c : Nat) : List UInt8 := (ys.getD c []).getLastD []
theorem getLastD_push (l : List (List UInt8)) (v : List UInt8) : (l ++ [v]).getLastD [] = v := by
  rw [List.getLastD_eq_getLast?, List.getLast?_append]; rfl
theorem getLastD_drop {l : List (List UInt8)} {m : Nat} (h : m < l.length) : (l.drop m).getLastD [] = l.getLastD [] := by
  rw [List.getLastD_eq_getLast?, List.getLastD_eq_getLast?, List.getLast?_drop, if_neg (by omega)]
section
variable {x : Cfg} {ys : Ys} {gs : List GoTy.T} {g : GoTy.T} {zs : Ys} {hs : List GoTy.T} {dat : List UInt8} {j a y : Nat}
theorem EndAt.last (h : EndAt x ys gs g zs hs dat j a y) (hp : PlainOk x ys gs) {c : Nat} (hc : c < ys.length) : lastV zs c = if kWrites ((kiOf g).toNat : Int) = true ∧ a ≤ c ∧ c < a + y then blk ((kiOf g).toNat : Int) (datOf g) (c - a) else lastV ys c := by
  have hm : ((mksOf g).getD c 0).toNat < (ys[c]).length := by
    by_cases hq : c < (mksOf g).length
    · obtain ⟨_, h1, h2⟩ := h.mark c hq
      have e : (mksOf g).getD c 0 = (mksOf g)[c] := by rw [List.getD_eq_getElem?_getD, List.getElem?_eq_getElem hq]; rfl
      rw [e]
      omega
    · have e : (mksOf g).getD c 0 = 0 := by rw [List.getD_eq_getElem?_getD, List.getElem?_eq_none (by omega)]; rfl
      rw [e]
      have := (hp.row hc).1
      show 0 < _
      omega
  have hd : (marksS (mksOf g) (mksOf g).length (ys, gs.eraseIdx j)).1.getD c [] = (ys[c]).drop ((mksOf g).getD c 0).toNat := by rw [h.mrow, getD_lt hc]
  unfold lastV
  rw [h.row]
  unfold rowAt
  by_cases hw : kWrites ((kiOf g).toNat : Int) = true ∧ a ≤ c ∧ c < a + y
  · rw [if_pos hw, if_pos hw]
    split
    · rfl
    · exact getLastD_push _ _
  · rw [if_neg hw, if_neg hw, hd, getLastD_drop hm, getD_lt hc]
/-- what a read tells -/
def tellS (now : List (List UInt8)) (a : Nat) : Nat → List UInt8
  | 0 => []
  | i + 1 => tellS now a i ++ now.getD (a + i) []
theorem EndAt.tells (h : EndAt x ys gs g zs hs dat j a y) (hp : PlainOk x ys gs) {now : List (List UInt8)} (hn : ∀ c, c < ys.length → now.getD c [] = lastV ys c) : dat = if kWrites ((kiOf g).toNat : Int) = true then [] else tellS now a y := by
  by_cases hw : kWrites ((kiOf g).toNat : Int) = true
  · rw [if_pos hw]
    exact endS_write hw _ _ _ _ _ h.data
  · have hw' : kWrites ((kiOf g).toNat : Int) = false := by simpa using hw
    rw [if_neg hw]
    have h1 := h.data
    rw [endS_read hw'] at h1
    have h2 := (Prod.mk.inj (Option.some.inj h1)).2
    rw [← h2]
    have hzs : zs = (marksS (mksOf g) (mksOf g).length (ys, gs.eraseIdx j)).1 := (Prod.mk.inj (Prod.mk.inj (Option.some.inj h1)).1).1.symm
    have hstep : ∀ i, i ≤ y → readS (marksS (mksOf g) (mksOf g).length (ys, gs.eraseIdx j)) a i = tellS now a i := by
      intro i
      induction i with
      | zero => intro _; rfl
      | succ i ih =>
        intro hi
        show readS _ a i ++ _ = tellS now a i ++ _
        rw [ih (by omega)]
        congr 1
        have hc : a + i < ys.length := by have := h.fit; omega
        rw [hn _ hc, ← hzs]
        have h3 := h.last hp hc
        rw [if_neg (fun h => hw h.1)] at h3
        exact h3
    exact hstep y (Nat.le_refl _)
end
end Go.Proofs.Ytclbihcggjjgaaa
/- Layer 30 (model): deeds; 'long'; what 'told' answers, and what it writes. -/
namespace Go.Proofs.Ytclbihcggjjgaaa
open Go Go.RowKit
set_option linter.unusedSimpArgs false
set_option linter.unusedVariables false

/-! ### the values that blocks have -/
/-- a row of one's own: each cell one block's value -/
def NowS (w : World) (By : Nat → Prop) (g : Nat) (vs : List (List UInt8)) : Prop :=
  ∃ cur : Array Value, BoxOf w g cur 29 ∧ ¬ By g ∧ vs.length ≤ cur.size ∧ ∀ k (h : k < vs.length), ∃ A c, cur.toList[k]? = some (.slice A vs[k].length c) ∧ RdIn w By (.sl .byte) vs[k] [.slice A vs[k].length c]
theorem NowS.frame {w w' : World} {By By' : Nat → Prop} {g : Nat} {vs : List (List UInt8)} (h : NowS w By g vs) (hg : w'.heap[g]? = w.heap[g]?) (hb : ∀ b, By b → w'.heap[b]? = w.heap[b]?) (hB : ∀ b, By b → By' b) (hn : ¬ By' g) : NowS w' By' g vs := by
  obtain ⟨cur, h1, h2, h3, h4⟩ := h
  refine ⟨cur, by unfold BoxOf at *; rw [hg]; exact h1, hn, h3, fun k hk => ?_⟩
  obtain ⟨A, c, h5, h6⟩ := h4 k hk
  exact ⟨A, c, h5, (h6.frame hb).mono hB⟩
theorem NowS.lt {w : World} {By : Nat → Prop} {g : Nat} {vs : List (List UInt8)} (h : NowS w By g vs) : g < w.heap.size := by
  obtain ⟨cur, h1, _⟩ := h
  exact h1.lt
theorem NowS.not {w : World} {By : Nat → Prop} {g : Nat} {vs : List (List UInt8)} (h : NowS w By g vs) : ¬ By g := by
  obtain ⟨cur, _, h2, _⟩ := h
  exact h2
theorem NowS.below {w w' : World} {By : Nat → Prop} {g B : Nat} {vs : List (List UInt8)} (h : NowS w By g vs) (hb : Below B w w') (hg : g < B) (hB : ∀ b, By b → b < B) : NowS w' By g vs :=
  h.frame (hb.block g hg) (fun b hb' => hb.block b (hB b hb')) (fun _ h => h) h.not
theorem NowS.at {w : World} {By : Nat → Prop} {g : Nat} {vs : List (List UInt8)} (h : NowS w By g vs) {k : Nat} (hk : k < vs.length) : ∃ A c, w.cell? ⟨g, k, none⟩ = some (.slice A vs[k].length c) ∧ RdIn w By (.sl .byte) vs[k] [.slice A vs[k].length c] := by
  obtain ⟨cur, h1, h2, h3, h4⟩ := h
  obtain ⟨A, c, h5, h6⟩ := h4 k hk
  exact ⟨A, c, by rw [h1.cell]; exact h5, h6⟩
theorem NowS.free {w : World} {By : Nat → Prop} {g : Nat} {vs : List (List UInt8)} (h : NowS w By g vs) : ∀ o, w.frozen? ⟨g, o, none⟩ = false := by
  obtain ⟨cur, h1, _⟩ := h
  exact h1.free
theorem NowS.put {w : World} {By : Nat → Prop} {g : Nat} {vs : List (List UInt8)} (h : NowS w By g vs) {k : Nat} (hk : k < vs.length) {v : List UInt8} {A : Option Addr} {c : Nat} (hv : RdIn w By (.sl .byte) v [.slice A v.length c]) : NowS (w.setCell ⟨g, k, none⟩ (.slice A v.length c)) By g (vs.set k v) := by
  obtain ⟨cur, h1, h2, h3, h4⟩ := h
  have hcl : cur.toList.length = cur.size := Array.length_toList
  have hB : ∀ b, By b → b ≠ g := fun b hb e => h2 (e ▸ hb)
  refine ⟨cur.setIfInBounds k (.slice A v.length c), mbox_self h1 k _, h2, by rw [List.length_set, Array.size_setIfInBounds]; exact h3, fun i hi => ?_⟩
  rw [List.length_set] at hi
  by_cases e : i = k
  · subst e
    refine ⟨A, c, ?_, ?_⟩
    · rw [Array.toList_setIfInBounds, List.getElem?_set_self (by rw [hcl]; omega), List.getElem_set_self]
    · rw [List.getElem_set_self]
      exact hv.setElse hB _ _
  · obtain ⟨A', c', h5, h6⟩ := h4 i hi
    refine ⟨A', c', ?_, ?_⟩
    · rw [Array.toList_setIfInBounds, List.getElem?_set_ne (fun h => e h.symm), List.getElem_set_ne (fun h => e h.symm)]
      exact h5
    · rw [List.getElem_set_ne (fun h => e h.symm)]
      exact h6.setElse hB k _
/-! ### what a request writes -/
def toldL (k : Int) (bs : List UInt8) (a : Nat) (vs : List (List UInt8)) : Nat → List (List UInt8)
  | 0 => vs
  | j + 1 => (toldL k bs a vs j).set (a + j) (blk k bs j)
theorem toldL_len (k : Int) (bs : List UInt8) (a : Nat) (vs : List (List UInt8)) (j : Nat) : (toldL k bs a vs j).length = vs.length := by
  induction j with
  | zero => rfl
  | succ j ih => show ((toldL k bs a vs j).set _ _).length = _; rw [List.length_set, ih]
theorem toldL_at (k : Int) (bs : List UInt8) (a : Nat) (vs : List (List UInt8)) (j : Nat) (hf : a + j ≤ vs.length) (c : Nat) : (toldL k bs a vs j).getD c [] = if a ≤ c ∧ c < a + j then blk k bs (c - a) else vs.getD c [] := by
  induction j with
  | zero => rw [if_neg (by omega)]; rfl
  | succ j ih =>
    have h1 := ih (by omega)
    show ((toldL k bs a vs j).set (a + j) (blk k bs j)).getD c [] = _
    rw [List.getD_eq_getElem?_getD] at h1 ⊢
    by_cases e : a + j = c
    · subst e
      rw [List.getElem?_set_self (by rw [toldL_len]; omega), if_pos (by omega), show a + j - a = j by omega]
      rfl
    · rw [List.getElem?_set_ne e, h1]
      by_cases e2 : a ≤ c ∧ c < a + j
      · rw [if_pos e2, if_pos (by omega)]
      · rw [if_neg e2, if_neg (by omega)]
def nowOf (k : Int) (bs : List UInt8) (a y : Nat) (vs : List (List UInt8)) : List (List UInt8) := if kWrites k = true then toldL k bs a vs y else vs
theorem nowOf_len (k : Int) (bs : List UInt8) (a y : Nat) (vs : List (List UInt8)) : (nowOf k bs a y vs).length = vs.length := by
  unfold nowOf
  split
  · exact toldL_len k bs a vs y
  · rfl
theorem nowOf_at (k : Int) (bs : List UInt8) (a y : Nat) (vs : List (List UInt8)) (hf : a + y ≤ vs.length) (c : Nat) : (nowOf k bs a y vs).getD c [] = if kWrites k = true ∧ a ≤ c ∧ c < a + y then blk k bs (c - a) else vs.getD c [] := by
  unfold nowOf
  by_cases h : kWrites k = true
  · rw [if_pos h, toldL_at k bs a vs y hf c]
    by_cases h2 : a ≤ c ∧ c < a + y
    · rw [if_pos h2, if_pos ⟨h, h2⟩]
    · rw [if_neg h2, if_neg (fun h3 => h2 h3.2)]
  · rw [if_neg h, if_neg (fun h3 => h h3.1)]
theorem toldBlk_len {k : Int} {bs : List UInt8} {j : Nat} (h : kBytes k = true → j * 128 + 128 ≤ bs.length) : (blk k bs j).length = 128 := by
  unfold blk
  split
  · rename_i h1
    exact part128_len (h h1)
  · exact zeros_len
theorem toldL_128 {k : Int} {bs : List UInt8} {a : Nat} {vs : List (List UInt8)} (h : ∀ v ∈ vs, v.length = 128) (j : Nat) (hb : kBytes k = true → j * 128 ≤ bs.length) : ∀ v ∈ toldL k bs a vs j, v.length = 128 := by
  induction j with
  | zero => exact h
  | succ j ih =>
    intro v hv
    rcases List.mem_or_eq_of_mem_set hv with h1 | rfl
    · exact ih (fun h2 => by have := hb h2; omega) v h1
    · exact toldBlk_len (fun h2 => by have := hb h2; omega)
theorem nowOf_128 {k : Int} {bs : List UInt8} {a y : Nat} {vs : List (List UInt8)} (h : ∀ v ∈ vs, v.length = 128) (hb : kBytes k = true → y * 128 ≤ bs.length) : ∀ v ∈ nowOf k bs a y vs, v.length = 128 := by
  unfold nowOf
  split
  · exact toldL_128 h y hb
  · exact h
/-! ### what turns: one row alone -/
theorem grown_refl (w : World) (r : Option Nat) : w.grownBy w r := ⟨rfl, rfl, rfl, Nat.le_refl _, fun _ _ _ => rfl⟩
theorem grown_below {w w' w'' : World} {r : Option Nat} {B : Nat} (h : w.grownBy w' r) (hb : Below B w' w'') (hB : w.heap.size ≤ B) : w.grownBy w'' r :=
  ⟨hb.os.trans h.os, hb.tape.trans h.tape, hb.output.trans h.output, Nat.le_trans h.size hb.size, fun k hk hr => (hb.block k (Nat.lt_of_lt_of_le hk hB)).trans (h.block k hk hr)⟩
theorem grown_setCell {w w' : World} {g : Nat} (h : w.grownBy w' (some g)) (o : Nat) (v : Value) : w.grownBy (w'.setCell ⟨g, o, none⟩ v) (some g) :=
  ⟨h.os, h.tape, h.output, by rw [msize]; exact h.size, fun k hk hr => (Below.heap_setCell _ _ _ _ (fun e => hr (by rw [e]))).trans (h.block k hk hr)⟩
theorem grown_cell {w w' : World} {g b o : Nat} {v : Value} (h : w.grownBy w' (some g)) (hb : b ≠ g) (hv : w.cell? ⟨b, o, none⟩ = some v) : w'.cell? ⟨b, o, none⟩ = some v :=
  (World.cell?_of_block (w := w) (h.block b (block_lt_of_cell hv) (fun e => hb (Option.some.inj e)))).trans hv
end Go.Proofs.Ytclbihcggjjgaaa
