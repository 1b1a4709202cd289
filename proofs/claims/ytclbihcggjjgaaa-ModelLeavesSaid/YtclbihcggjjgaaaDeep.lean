/- Data with depth: what memory reads as, where each block that is met is known, and no slice has more bytes than a machine has; kept; and what comes in reads so. -/
import Derived.Test.YtclbihcggjjgaaaData
import Derived.SizedLaws
namespace Go.Proofs.Ytclbihcggjjgaaa
open Go.RowKit Go.ChangeShapes Go.WideShapes

namespace Ty
/-- on what bounds one stands -/
def align : Ty → Nat
  | byte | bool | unit => 1
  | u32 => 4
  | int | sl _ => 8
  | prod a _ => a.align
  | st p => p.align
  | arr _ e => e.align
def up (n a : Nat) : Nat := (n + a - 1) / a * a
/-- how many bytes one has (the program's own sizes are no less: 'heavy') -/
def bytes : Ty → Nat
  | byte | bool => 1
  | u32 => 4
  | int => 8
  | sl _ => 24
  | unit => 0
  | prod a b => up a.bytes b.align + b.bytes
  | st p => p.bytes
  | arr n e => n * e.bytes
/-- the program's own sizes are no less -/
def heavy (P : Program) : Ty → TypeId → List Field → Bool
  | sl e, t, _ => match P.underlying t with | some (.slice e') => decide (e.bytes ≤ P.bytesOf e') && e.heavy P e' [] | _ => false
  | prod a b, t, fs => match fs with | f :: fs => a.heavy P f.type [] && b.heavy P t fs | [] => false
  | st p, t, _ => match P.underlying t with | some (.struct fs) => p.heavy P t fs.toList | _ => false
  | arr _ e, t, _ => match P.underlying t with | some (.array _ e') => e.heavy P e' [] | _ => false
  | _, _, _ => true
end Ty

/-- What cells read as; each block that is met is one of S. -/
def RdIn (w : World) (S : Nat → Prop) : (t : Ty) → t.T → List Value → Prop
  | .byte, x, cs => cs = [byteV x]
  | .u32, n, cs => cs = [.int .u32 ((show Nat from n : Nat) : Int)] ∧ (show Nat from n) < 2 ^ 32
  | .int, n, cs => cs = [.int .i64 (show Int from n)] ∧ IsInt n
  | .bool, b, cs => cs = [.bool b]
  | .sl e, xs, cs => ∃ A c, cs = [.slice A (show List e.T from xs).length c] ∧ (show List e.T from xs).length ≤ c ∧ c ≤ maxLen ∧ (show List e.T from xs).length * e.bytes ≤ 140737488355328 ∧
      ((show List e.T from xs) = [] ∨ ∃ b off, A = some ⟨b, off, none⟩ ∧ S b ∧ ∀ i (hi : i < (show List e.T from xs).length), ∃ es : List Value,
        (∀ j, j < e.size → w.cell? ⟨b, off + i * e.size + j, none⟩ = es[j]?) ∧ RdIn w S e ((show List e.T from xs)[i]) es)
  | .unit, _, cs => cs = []
  | .prod a b, x, cs => ∃ c1 c2, cs = c1 ++ c2 ∧ RdIn w S a (show a.T × b.T from x).1 c1 ∧ RdIn w S b (show a.T × b.T from x).2 c2
  | .st p, x, cs => RdIn w S p x cs
  | .arr n e, xs, cs => (show List e.T from xs).length = n ∧ cs.length = n * e.size ∧ ∀ i (hi : i < (show List e.T from xs).length), RdIn w S e ((show List e.T from xs)[i]) ((cs.drop (i * e.size)).take e.size)

section
variable {w : World} {S : Nat → Prop} {cs : List Value}
theorem rdin_byte {x : UInt8} : RdIn w S .byte x cs ↔ cs = [byteV x] := Iff.rfl
theorem rdin_u32 {n : Nat} : RdIn w S .u32 n cs ↔ cs = [.int .u32 (n : Int)] ∧ n < 2 ^ 32 := Iff.rfl
theorem rdin_int {n : Int} : RdIn w S .int n cs ↔ cs = [.int .i64 n] ∧ IsInt n := Iff.rfl
theorem rdin_bool {b : Bool} : RdIn w S .bool b cs ↔ cs = [.bool b] := Iff.rfl
theorem rdin_sl {e : Ty} {xs : List e.T} : RdIn w S (.sl e) xs cs ↔ ∃ A c, cs = [.slice A xs.length c] ∧ xs.length ≤ c ∧ c ≤ maxLen ∧ xs.length * e.bytes ≤ 140737488355328 ∧
      (xs = [] ∨ ∃ b off, A = some ⟨b, off, none⟩ ∧ S b ∧ ∀ i (hi : i < xs.length), ∃ es : List Value,
        (∀ j, j < e.size → w.cell? ⟨b, off + i * e.size + j, none⟩ = es[j]?) ∧ RdIn w S e xs[i] es) := Iff.rfl
theorem rdin_unit {x : Unit} : RdIn w S .unit x cs ↔ cs = [] := Iff.rfl
theorem rdin_prod {a b : Ty} {x : a.T} {y : b.T} : RdIn w S (.prod a b) (x, y) cs ↔ ∃ c1 c2, cs = c1 ++ c2 ∧ RdIn w S a x c1 ∧ RdIn w S b y c2 := Iff.rfl
theorem rdin_st {p : Ty} {x : p.T} : RdIn w S (.st p) x cs ↔ RdIn w S p x cs := Iff.rfl
theorem rdin_arr {n : Nat} {e : Ty} {xs : List e.T} : RdIn w S (.arr n e) xs cs ↔ xs.length = n ∧ cs.length = n * e.size ∧ ∀ i (hi : i < xs.length), RdIn w S e xs[i] ((cs.drop (i * e.size)).take e.size) := Iff.rfl
end

theorem RdIn.len {w : World} {S : Nat → Prop} : {t : Ty} → {x : t.T} → {cs : List Value} → RdIn w S t x cs → cs.length = t.size
  | .byte, _, _, h => by unfold RdIn at h; subst h; rfl
  | .u32, _, _, h => by unfold RdIn at h; obtain ⟨rfl, _⟩ := h; rfl
  | .int, _, _, h => by unfold RdIn at h; obtain ⟨rfl, _⟩ := h; rfl
  | .bool, _, _, h => by unfold RdIn at h; subst h; rfl
  | .sl _, _, _, h => by unfold RdIn at h; obtain ⟨_, _, rfl, _⟩ := h; rfl
  | .unit, _, _, h => by unfold RdIn at h; subst h; rfl
  | .prod a b, _, _, h => by
    unfold RdIn at h
    obtain ⟨c1, c2, rfl, h1, h2⟩ := h
    rw [List.length_append, h1.len, h2.len]
    rfl
  | .st p, _, _, h => by unfold RdIn at h; exact h.len (t := p)
  | .arr n e, _, _, h => by unfold RdIn at h; exact h.2.1

/-- What stood there stands there yet; the blocks may be told anew. -/
theorem RdIn.keep {w w' : World} {S S' : Nat → Prop} (hk : ∀ (p : Addr) (v : Value), S p.block → w.cell? p = some v → w'.cell? p = some v ∧ S' p.block) (hS : ∀ b, S b → S' b) : {t : Ty} → {x : t.T} → {cs : List Value} → RdIn w S t x cs → RdIn w' S' t x cs
  | .byte, _, _, h => by unfold RdIn at h ⊢; exact h
  | .u32, _, _, h => by unfold RdIn at h ⊢; exact h
  | .int, _, _, h => by unfold RdIn at h ⊢; exact h
  | .bool, _, _, h => by unfold RdIn at h ⊢; exact h
  | .sl e, xs, _, h => by
    unfold RdIn at h ⊢
    obtain ⟨A, c, hcs, hn, hm, hz, h⟩ := h
    refine ⟨A, c, hcs, hn, hm, hz, ?_⟩
    rcases h with h | ⟨b, off, hA, hb, h⟩
    · exact .inl h
    · refine .inr ⟨b, off, hA, hS b hb, fun i hi => ?_⟩
      obtain ⟨es, hc, hr⟩ := h i hi
      have hl := hr.len
      refine ⟨es, fun j hj => ?_, hr.keep hk hS⟩
      have := hc j hj
      rw [List.getElem?_eq_getElem (by omega)] at this ⊢
      exact (hk _ _ hb this).1
  | .unit, _, _, h => by unfold RdIn at h ⊢; exact h
  | .prod a b, _, _, h => by
    unfold RdIn at h ⊢
    obtain ⟨c1, c2, rfl, h1, h2⟩ := h
    exact ⟨c1, c2, rfl, h1.keep hk hS, h2.keep hk hS⟩
  | .st p, _, _, h => by unfold RdIn at h ⊢; exact h.keep (t := p) hk hS
  | .arr n e, _, _, h => by
    unfold RdIn at h ⊢
    exact ⟨h.1, h.2.1, fun i hi => (h.2.2 i hi).keep hk hS⟩
theorem RdIn.mono {w : World} {S S' : Nat → Prop} (hS : ∀ b, S b → S' b) {t : Ty} {x : t.T} {cs : List Value} (h : RdIn w S t x cs) : RdIn w S' t x cs := h.keep (fun _ _ hs hv => ⟨hv, hS _ hs⟩) hS
theorem RdIn.below {w w' : World} {S : Nat → Prop} {t : Ty} {x : t.T} {cs : List Value} (h : RdIn w S t x cs) (hb : Below w.heap.size w w') : RdIn w' S t x cs :=
  h.keep (fun p v hs hv => ⟨by rw [hb.cell (block_lt_of_cell hv)]; exact hv, hs⟩) (fun _ h => h)
/-- all is kept but one block -/
theorem RdIn.apart {w w' : World} {S : Nat → Prop} {g : Nat} {t : Ty} {x : t.T} {cs : List Value} (h : RdIn w S t x cs) (hS : ∀ b, S b → b ≠ g) (hk : ∀ p : Addr, p.block ≠ g → p.block < w.heap.size → w'.cell? p = w.cell? p) : RdIn w' S t x cs :=
  h.keep (fun p v hs hv => ⟨by rw [hk p (hS _ hs) (block_lt_of_cell hv)]; exact hv, hs⟩) (fun _ h => h)
theorem RdIn.reads {w : World} {S : Nat → Prop} : {t : Ty} → {x : t.T} → {cs : List Value} → RdIn w S t x cs → Reads w t x cs
  | .byte, _, _, h => by unfold RdIn at h; unfold Reads; exact h
  | .u32, _, _, h => by unfold RdIn at h; unfold Reads; exact h
  | .int, _, _, h => by unfold RdIn at h; unfold Reads; exact h
  | .bool, _, _, h => by unfold RdIn at h; unfold Reads; exact h
  | .sl e, xs, _, h => by
    unfold RdIn at h
    unfold Reads
    obtain ⟨A, c, hcs, hn, hm, _, h⟩ := h
    refine ⟨A, c, hcs, hn, hm, ?_⟩
    rcases h with h | ⟨b, off, hA, _, h⟩
    · exact .inl h
    · refine .inr ⟨b, off, hA, fun i hi => ?_⟩
      obtain ⟨es, hc, hr⟩ := h i hi
      exact ⟨es, hc, hr.reads⟩
  | .unit, _, _, h => by unfold RdIn at h; unfold Reads; exact h
  | .prod a b, _, _, h => by
    unfold RdIn at h
    unfold Reads
    obtain ⟨c1, c2, rfl, h1, h2⟩ := h
    exact ⟨c1, c2, rfl, h1.reads, h2.reads⟩
  | .st p, _, _, h => by unfold RdIn at h; unfold Reads; exact h.reads (t := p)
  | .arr n e, _, _, h => by
    unfold RdIn at h
    unfold Reads
    exact ⟨h.1, h.2.1, fun i hi => (h.2.2 i hi).reads⟩

/-! ### what comes in -/
section
variable {H : Type} {enc : TypeId × Value → H} {P : Program} {w : World} {base : Nat} {spare : Nat → Bool} {held : Bool}

theorem weightsAll_mem {P : Program} {e : TypeId} : ∀ {ds : List (DataW H)} {i : Nat} {d : DataW H}, ds[i]? = some d → ∀ n ∈ d.weights P e, n ∈ DataW.weightsAll P e ds
  | d0 :: ds, 0, d, hd, n, hn => by
    simp only [List.getElem?_cons_zero, Option.some.injEq] at hd
    subst hd
    simp only [DataW.weightsAll, List.mem_append]
    exact .inl hn
  | d0 :: ds, i + 1, d, hd, n, hn => by
    simp only [List.getElem?_cons_succ] at hd
    simp only [DataW.weightsAll, List.mem_append]
    exact .inr (weightsAll_mem hd n hn)
  | [], _, _, hd, _, _ => by simp at hd

theorem deep_of_trod : (t : Ty) →
    (t.isField = false → ∀ (tid : TypeId) (fuel : Nat) (cs : List Value) (y : DataW H × List MemPlace), t.fits P tid [] 0 = true → t.heavy P tid [] = true → DataW.trod enc P w base spare held fuel tid cs = some y → (∀ n ∈ y.1.weights P tid, n ≤ reachBytes) → ∃ x : t.T, RdIn w (fun b => b < w.heap.size) t x cs) ∧
    (t.isField = true → ∀ (tid : TypeId) (fs : List Field) (off n : Nat) (cs : List Value), t.fits P tid fs off = true → t.heavy P tid fs = true →
      (∀ f ∈ fs, ∃ y, DataW.trod enc P w base spare held n f.type ((cs.drop f.offset).take (P.cellsOf f.type)) = some y ∧ ∀ n ∈ y.1.weights P f.type, n ≤ reachBytes) → cs.length = off + t.size → ∃ x : t.T, RdIn w (fun b => b < w.heap.size) t x (cs.drop off))
  | .byte => by
    refine ⟨fun _ tid fuel cs y hf _ h _ => ?_, fun h => by cases h⟩
    unfold Ty.fits at hf
    split at hf
    · rename_i hu
      obtain ⟨n, rfl, _, hw⟩ := DataW.trod_int hu h
      obtain ⟨x, hx⟩ := wf_u8_byte hw
      exact ⟨x, rdin_byte.2 (by rw [hx])⟩
    · cases hf
  | .u32 => by
    refine ⟨fun _ tid fuel cs y hf _ h _ => ?_, fun h => by cases h⟩
    unfold Ty.fits at hf
    split at hf
    · rename_i hu
      obtain ⟨n, rfl, _, hw⟩ := DataW.trod_int hu h
      have hb := bounds_u32 hw
      refine ⟨n.toNat, rdin_u32.2 ⟨?_, by omega⟩⟩
      rw [show ((n.toNat : Nat) : Int) = n by omega]
    · cases hf
  | .int => by
    refine ⟨fun _ tid fuel cs y hf _ h _ => ?_, fun h => by cases h⟩
    unfold Ty.fits at hf
    split at hf
    · rename_i hu
      obtain ⟨n, rfl, _, hw⟩ := DataW.trod_int hu h
      exact ⟨n, rdin_int.2 ⟨rfl, bounds_i64 hw⟩⟩
    · cases hf
  | .bool => by
    refine ⟨fun _ tid fuel cs y hf _ h _ => ?_, fun h => by cases h⟩
    unfold Ty.fits at hf
    split at hf
    · rename_i hu
      obtain ⟨n, rfl, _⟩ := DataW.trod_bool hu h
      exact ⟨n, rdin_bool.2 rfl⟩
    · cases hf
  | .sl e => by
    refine ⟨fun _ tid fuel cs y hf hh h hwt => ?_, fun h => by cases h⟩
    unfold Ty.fits at hf
    unfold Ty.heavy at hh
    split at hf
    · rename_i e' hu
      rw [hu] at hh
      simp only [Bool.and_eq_true, beq_iff_eq, Bool.not_eq_true', bne_iff_ne] at hf
      simp only [Bool.and_eq_true, decide_eq_true_eq] at hh
      obtain ⟨hz, hh⟩ := hh
      obtain ⟨⟨⟨hf, hs⟩, hne⟩, hs0⟩ := hf
      rcases DataW.trod_slice hu h with ⟨rfl, _⟩ | ⟨a, len, cap, elems, rest, n, _, rfl, rfl, hb, hl, hm, hlen, hel, _⟩
      · refine ⟨([] : List e.T), rdin_sl.2 ?_⟩
        exact ⟨none, 0, rfl, by simp, by simp [maxLen], by simp, .inl rfl⟩
      · have hwl : (elems.map (·.1)).length * P.bytesOf e' ≤ reachBytes := by
          have := hwt (((elems.map (·.1)).length + (rest.map (·.1)).length) * P.bytesOf e') (by simp [DataW.weights, hu])
          rw [Nat.add_mul] at this
          omega
        have each : ∀ i, i < len → ∃ x : e.T, ∃ es : List Value, (∀ j, j < e.size → w.cell? ⟨a.block, a.off + i * e.size + j, none⟩ = es[j]?) ∧ RdIn w (fun b => b < w.heap.size) e x es := by
          intro i hi
          have h1 := hel i hi
          have hil : i < elems.length := by omega
          rw [List.getElem?_eq_getElem hil] at h1
          obtain ⟨es, hc, ht⟩ := Option.bind_eq_some_iff.1 h1
          obtain ⟨_, hcl, hcc⟩ := World.cells?_some hc
          obtain ⟨x, hx⟩ := (deep_of_trod e).1 hne _ _ _ _ hf hh ht (fun n hn => hwt n (by
            have := weightsAll_mem (P := P) (e := e') (ds := elems.map (·.1)) (i := i) (d := elems[i].1) (by simp [hil]) n hn
            simp [DataW.weights, hu, this]))
          refine ⟨x, es, fun j hj => ?_, hx⟩
          rw [hs] at hcl hcc
          have h2 := hcc j hj
          rw [List.getElem?_eq_getElem (by omega)] at h2
          have h3 : (a.add (i * e.size)).add j = ⟨a.block, a.off + i * e.size + j, none⟩ := by
            have h0 := hcc 0 (by omega)
            rw [List.getElem?_eq_getElem (by omega)] at h0
            have h5 := addr_of_cell h2
            rw [h5]
            unfold Addr.add
            split
            · rename_i hz; rw [hz]; simp
            · rfl
          rw [h3] at h2
          rw [h2, List.getElem?_eq_getElem (by omega)]
        obtain ⟨l, hll, hlr⟩ := choose_list len each
        have hlb : l.length * e.bytes ≤ 140737488355328 := by
          have h1 : l.length * e.bytes ≤ (elems.map (·.1)).length * P.bytesOf e' := by
            rw [hll, List.length_map, hlen]
            exact Nat.mul_le_mul_left _ hz
          have h2 : reachBytes ≤ 140737488355328 := by decide
          omega
        refine ⟨l, rdin_sl.2 ?_⟩
        refine ⟨some a, cap, by rw [hll], by rw [hll]; exact hl, hm, hlb, ?_⟩
        rcases Nat.eq_zero_or_pos len with h0 | h0
        · exact .inl (List.eq_nil_of_length_eq_zero (by omega))
        · have h1 := hel 0 h0
          rw [List.getElem?_eq_getElem (by omega)] at h1
          obtain ⟨es, hc, _⟩ := Option.bind_eq_some_iff.1 h1
          obtain ⟨_, hcl, hcc⟩ := World.cells?_some hc
          have h2 := hcc 0 (by omega)
          rw [List.getElem?_eq_getElem (by omega)] at h2
          have hsp := World.cell?_spot h2
          have hlt := block_lt_of_cell h2
          have e1 : (a.add (0 * P.cellsOf e')).add 0 = a := by unfold Addr.add; simp
          rw [e1] at hsp hlt
          refine .inr ⟨a.block, a.off, ?_, hlt, fun i hi => hlr i hi⟩
          cases a
          simp_all
    · cases hf
  | .unit => by
    refine ⟨(fun h => by cases h), fun _ tid fs off n cs hf _ _ hlen => ⟨(), rdin_unit.2 ?_⟩⟩
    simp [Ty.size] at hlen
    exact List.drop_eq_nil_iff.2 (by omega)
  | .prod a b => by
    refine ⟨(fun h => by cases h), fun _ tid fs off n cs hf hh hx hlen => ?_⟩
    unfold Ty.fits at hf
    unfold Ty.heavy at hh
    split at hf
    · rename_i f fs
      simp only [Bool.and_eq_true, beq_iff_eq, Bool.not_eq_true'] at hf hh
      obtain ⟨⟨⟨⟨⟨ho, hs⟩, ha⟩, hna⟩, hnb⟩, hb⟩ := hf
      obtain ⟨y, hy, hyw⟩ := hx f (by simp)
      obtain ⟨x1, r1⟩ := (deep_of_trod a).1 hna _ _ _ _ ha hh.1 hy hyw
      have hl2 : cs.length = off + a.size + b.size := by simp [Ty.size] at hlen; omega
      obtain ⟨x2, r2⟩ := (deep_of_trod b).2 hnb tid fs (off + a.size) n cs hb hh.2 (fun g hg => hx g (by simp [hg])) hl2
      refine ⟨(x1, x2), rdin_prod.2 ?_⟩
      refine ⟨_, _, ?_, r1, r2⟩
      rw [ho, hs, ← List.drop_drop]
      exact (List.take_append_drop a.size (cs.drop off)).symm
    · cases hf
  | .st p => by
    refine ⟨fun _ tid fuel cs y hf hh h hwt => ?_, fun h => by cases h⟩
    unfold Ty.fits at hf
    unfold Ty.heavy at hh
    split at hf
    · rename_i fs hu
      rw [hu] at hh
      simp only [Bool.and_eq_true, beq_iff_eq] at hf
      obtain ⟨⟨hf, hs⟩, hp⟩ := hf
      obtain ⟨xs, n, _, rfl, hl, hxl, hx⟩ := DataW.trod_struct hu h
      have hx' : ∀ f ∈ fs.toList, ∃ y, DataW.trod enc P w base spare held n f.type ((cs.drop f.offset).take (P.cellsOf f.type)) = some y ∧ ∀ n ∈ y.1.weights P f.type, n ≤ reachBytes := by
        intro f hf'
        obtain ⟨i, hi, hfi⟩ := List.getElem_of_mem hf'
        have hi' : i < fs.size := by simpa using hi
        have := hx i f (by rw [Array.getElem?_eq_getElem hi']; congr 1)
        refine ⟨xs[i]'(by omega), by rw [this]; exact List.getElem?_eq_getElem _, fun n hn => hwt n ?_⟩
        simp only [DataW.weights, hu]
        refine DataW.weights_mem_each (j := i) (t := f.type) (d := (xs[i]'(by omega)).1) ?_ ?_ n hn
        · rw [List.getElem?_map, List.getElem?_eq_getElem hi, hfi]; rfl
        · rw [List.getElem?_map, List.getElem?_eq_getElem (by omega)]; rfl
      obtain ⟨x, hr⟩ := (deep_of_trod p).2 hp tid fs.toList 0 n cs hf hh hx' (by omega)
      exact ⟨x, rdin_st.2 (by simpa using hr)⟩
    · cases hf
  | .arr m e => by
    refine ⟨fun _ tid fuel cs y hf hh h hwt => ?_, fun h => by cases h⟩
    unfold Ty.fits at hf
    unfold Ty.heavy at hh
    split at hf
    · rename_i m' e' hu
      rw [hu] at hh
      simp only [Bool.and_eq_true, beq_iff_eq, Bool.not_eq_true'] at hf
      obtain ⟨⟨⟨⟨hm, hf⟩, hs⟩, hc⟩, hne⟩ := hf
      subst hm
      obtain ⟨xs, n, _, rfl, hl, hxl, hx⟩ := DataW.trod_array hu h
      have each : ∀ i, i < m' → ∃ x : e.T, RdIn w (fun b => b < w.heap.size) e x ((cs.drop (i * e.size)).take e.size) := by
        intro i hi
        have h1 := hx i hi
        have hil : i < xs.length := by omega
        rw [hs, List.getElem?_eq_getElem hil] at h1
        exact (deep_of_trod e).1 hne _ _ _ _ hf hh h1 (fun n hn => hwt n (by
          simp only [DataW.weights, hu]
          exact weightsAll_mem (P := P) (e := e') (ds := xs.map (·.1)) (i := i) (d := xs[i].1) (by simp [hil]) n hn))
      obtain ⟨l, hll, hlr⟩ := choose_list m' each
      exact ⟨l, rdin_arr.2 ⟨hll, by omega, hlr⟩⟩
    · cases hf

/-- An argument, opened. -/
theorem open_deep {t : Ty} {tid : TypeId} {v : Value} {d : DataW H} {ps : List MemPlace} (hn : t.isField = false) (hf : t.fits P tid [] 0 = true) (hh : t.heavy P tid [] = true) (h : DataW.Trod enc P w base spare held tid v d ps) (hw : ∀ n ∈ d.weights P tid, n ≤ reachBytes) :
    ∃ x : t.T, RdIn w (fun b => b < w.heap.size) t x v.cells.toList := by
  obtain ⟨fuel, h⟩ := h
  exact (deep_of_trod t).1 hn _ _ _ _ hf hh h hw
end
theorem rdin_single {w : World} {S : Nat → Prop} {t : Ty} {x : t.T} {v : Value} (h : RdIn w S t x v.cells.toList) (hv : v.cells.toList = [v]) : RdIn w S t x [v] := by rw [← hv]; exact h
end Go.Proofs.Ytclbihcggjjgaaa
