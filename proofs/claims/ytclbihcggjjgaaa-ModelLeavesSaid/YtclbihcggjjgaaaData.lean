/- Data as Lean has them: what values and memory read as, whatever the type; kept below; and what comes in reads so. -/
import Derived.Test.YtclbihcggjjgaaaLib
import Derived.OpenShut
namespace Go.Proofs.Ytclbihcggjjgaaa
open Go.RowKit Go.ChangeShapes Go.WideShapes

inductive Ty where
  | byte
  | u32
  | int
  | bool
  | sl (e : Ty)
  | unit
  | prod (a b : Ty)
  | st (p : Ty)
  | arr (n : Nat) (e : Ty)

namespace Ty
/-- how many cells -/
def size : Ty → Nat
  | byte | u32 | int | bool | sl _ => 1
  | unit => 0
  | prod a b => a.size + b.size
  | st p => p.size
  | arr n e => n * e.size
def T : Ty → Type
  | byte => UInt8
  | u32 => Nat
  | int => Int
  | bool => Bool
  | sl e => List e.T
  | unit => Unit
  | prod a b => a.T × b.T
  | st p => p.T
  | arr _ e => List e.T
end Ty
abbrev IsInt (n : Int) : Prop := -9223372036854775808 ≤ n ∧ n ≤ 9223372036854775807

/-- What cells read as. -/
def Reads (w : World) : (t : Ty) → t.T → List Value → Prop
  | .byte, x, cs => cs = [byteV x]
  | .u32, n, cs => cs = [.int .u32 ((show Nat from n : Nat) : Int)] ∧ (show Nat from n) < 2 ^ 32
  | .int, n, cs => cs = [.int .i64 (show Int from n)] ∧ IsInt n
  | .bool, b, cs => cs = [.bool b]
  | .sl e, xs, cs => ∃ A c, cs = [.slice A (show List e.T from xs).length c] ∧ (show List e.T from xs).length ≤ c ∧ c ≤ maxLen ∧
      ((show List e.T from xs) = [] ∨ ∃ b off, A = some ⟨b, off, none⟩ ∧ ∀ i (hi : i < (show List e.T from xs).length), ∃ es : List Value,
        (∀ j, j < e.size → w.cell? ⟨b, off + i * e.size + j, none⟩ = es[j]?) ∧ Reads w e ((show List e.T from xs)[i]) es)
  | .unit, _, cs => cs = []
  | .prod a b, x, cs => ∃ c1 c2, cs = c1 ++ c2 ∧ Reads w a (show a.T × b.T from x).1 c1 ∧ Reads w b (show a.T × b.T from x).2 c2
  | .st p, x, cs => Reads w p x cs
  | .arr n e, xs, cs => (show List e.T from xs).length = n ∧ cs.length = n * e.size ∧ ∀ i (hi : i < (show List e.T from xs).length), Reads w e ((show List e.T from xs)[i]) ((cs.drop (i * e.size)).take e.size)

section
variable {w : World} {cs : List Value}
theorem reads_byte {x : UInt8} : Reads w .byte x cs ↔ cs = [byteV x] := Iff.rfl
theorem reads_u32 {n : Nat} : Reads w .u32 n cs ↔ cs = [.int .u32 (n : Int)] ∧ n < 2 ^ 32 := Iff.rfl
theorem reads_int {n : Int} : Reads w .int n cs ↔ cs = [.int .i64 n] ∧ IsInt n := Iff.rfl
theorem reads_bool {b : Bool} : Reads w .bool b cs ↔ cs = [.bool b] := Iff.rfl
theorem reads_sl {e : Ty} {xs : List e.T} : Reads w (.sl e) xs cs ↔ ∃ A c, cs = [.slice A xs.length c] ∧ xs.length ≤ c ∧ c ≤ maxLen ∧
      (xs = [] ∨ ∃ b off, A = some ⟨b, off, none⟩ ∧ ∀ i (hi : i < xs.length), ∃ es : List Value,
        (∀ j, j < e.size → w.cell? ⟨b, off + i * e.size + j, none⟩ = es[j]?) ∧ Reads w e xs[i] es) := Iff.rfl
theorem reads_unit {x : Unit} : Reads w .unit x cs ↔ cs = [] := Iff.rfl
theorem reads_prod {a b : Ty} {x : a.T} {y : b.T} : Reads w (.prod a b) (x, y) cs ↔ ∃ c1 c2, cs = c1 ++ c2 ∧ Reads w a x c1 ∧ Reads w b y c2 := Iff.rfl
theorem reads_st {p : Ty} {x : p.T} : Reads w (.st p) x cs ↔ Reads w p x cs := Iff.rfl
theorem reads_arr {n : Nat} {e : Ty} {xs : List e.T} : Reads w (.arr n e) xs cs ↔ xs.length = n ∧ cs.length = n * e.size ∧ ∀ i (hi : i < xs.length), Reads w e xs[i] ((cs.drop (i * e.size)).take e.size) := Iff.rfl
end

theorem Reads.len {w : World} : {t : Ty} → {x : t.T} → {cs : List Value} → Reads w t x cs → cs.length = t.size
  | .byte, _, _, h => by unfold Reads at h; subst h; rfl
  | .u32, _, _, h => by unfold Reads at h; obtain ⟨rfl, _⟩ := h; rfl
  | .int, _, _, h => by unfold Reads at h; obtain ⟨rfl, _⟩ := h; rfl
  | .bool, _, _, h => by unfold Reads at h; subst h; rfl
  | .sl _, _, _, h => by unfold Reads at h; obtain ⟨_, _, rfl, _⟩ := h; rfl
  | .unit, _, _, h => by unfold Reads at h; subst h; rfl
  | .prod a b, _, _, h => by
    unfold Reads at h
    obtain ⟨c1, c2, rfl, h1, h2⟩ := h
    rw [List.length_append, h1.len, h2.len]
    rfl
  | .st p, _, _, h => by unfold Reads at h; exact h.len (t := p)
  | .arr n e, _, _, h => by unfold Reads at h; exact h.2.1

/-- What stood there stands there yet. -/
theorem Reads.keep {w w' : World} (hk : ∀ (p : Addr) (v : Value), w.cell? p = some v → w'.cell? p = some v) : {t : Ty} → {x : t.T} → {cs : List Value} → Reads w t x cs → Reads w' t x cs
  | .byte, _, _, h => by unfold Reads at h ⊢; exact h
  | .u32, _, _, h => by unfold Reads at h ⊢; exact h
  | .int, _, _, h => by unfold Reads at h ⊢; exact h
  | .bool, _, _, h => by unfold Reads at h ⊢; exact h
  | .sl e, xs, _, h => by
    unfold Reads at h ⊢
    obtain ⟨A, c, hcs, hn, hm, h⟩ := h
    refine ⟨A, c, hcs, hn, hm, ?_⟩
    rcases h with h | ⟨b, off, hA, h⟩
    · exact .inl h
    · refine .inr ⟨b, off, hA, fun i hi => ?_⟩
      obtain ⟨es, hc, hr⟩ := h i hi
      have hl := hr.len
      refine ⟨es, fun j hj => ?_, hr.keep hk⟩
      have := hc j hj
      rw [List.getElem?_eq_getElem (by omega)] at this ⊢
      exact hk _ _ this
  | .unit, _, _, h => by unfold Reads at h ⊢; exact h
  | .prod a b, _, _, h => by
    unfold Reads at h ⊢
    obtain ⟨c1, c2, rfl, h1, h2⟩ := h
    exact ⟨c1, c2, rfl, h1.keep hk, h2.keep hk⟩
  | .st p, _, _, h => by unfold Reads at h ⊢; exact h.keep (t := p) hk
  | .arr n e, _, _, h => by
    unfold Reads at h ⊢
    exact ⟨h.1, h.2.1, fun i hi => (h.2.2 i hi).keep hk⟩
theorem Reads.below {w w' : World} {t : Ty} {x : t.T} {cs : List Value} (h : Reads w t x cs) (hb : Below w.heap.size w w') : Reads w' t x cs :=
  h.keep fun p v hv => by rw [hb.cell (block_lt_of_cell hv)]; exact hv

/-! ### what comes in -/
namespace Ty
def isField : Ty → Bool
  | unit | prod _ _ => true
  | _ => false
/-- a type of the program's is this one -/
def fits (P : Program) : Ty → TypeId → List Field → Nat → Bool
  | byte, t, _, _ => match P.underlying t with | some (.int .u8) => true | _ => false
  | u32, t, _, _ => match P.underlying t with | some (.int .u32) => true | _ => false
  | int, t, _, _ => match P.underlying t with | some (.int .i64) => true | _ => false
  | bool, t, _, _ => match P.underlying t with | some .bool => true | _ => false
  | sl e, t, _, _ => match P.underlying t with | some (.slice e') => e.fits P e' [] 0 && (P.cellsOf e' == e.size) && !e.isField && e.size != 0 | _ => false
  | unit, _, fs, _ => fs.isEmpty
  | prod a b, t, fs, off => match fs with | f :: fs => (f.offset == off) && (P.cellsOf f.type == a.size) && a.fits P f.type [] 0 && !a.isField && b.isField && b.fits P t fs (off + a.size) | [] => false
  | st p, t, _, _ => match P.underlying t with | some (.struct fs) => p.fits P t fs.toList 0 && (P.cellsOf t == p.size) && p.isField | _ => false
  | arr n e, t, _, _ => match P.underlying t with | some (.array m e') => (m == n) && e.fits P e' [] 0 && (P.cellsOf e' == e.size) && (P.cellsOf t == n * e.size) && !e.isField | _ => false
end Ty

theorem choose_list {α : Type} {R : Nat → α → Prop} : (n : Nat) → (∀ i, i < n → ∃ x, R i x) → ∃ l : List α, l.length = n ∧ ∀ i (hi : i < l.length), R i l[i]
  | 0, _ => ⟨[], rfl, fun i hi => absurd hi (by simp)⟩
  | n + 1, h => by
    obtain ⟨l, hl, hr⟩ := choose_list n (fun i hi => h i (by omega))
    obtain ⟨x, hx⟩ := h n (by omega)
    refine ⟨l ++ [x], by simp [hl], fun i hi => ?_⟩
    rw [List.getElem_append]
    split
    · exact hr i _
    · have : i = n := by simp at hi; omega
      subst this
      simpa using hx

section
variable {H : Type} {enc : TypeId × Value → H} {P : Program} {w : World} {base : Nat} {spare : Nat → Bool} {held : Bool}

theorem addr_of_cell {a : Addr} {j : Nat} {v : Value} (h : w.cell? (a.add j) = some v) : (a.add j) = ⟨a.block, a.off + j, none⟩ := by
  have hs := World.cell?_spot h
  unfold Addr.add at hs ⊢
  split
  · rename_i h0
    subst h0
    simp at hs
    cases a
    simp_all
  · rfl

theorem wf_u8_byte {n : Int} (h : (Lit.int .u8 n).wf = true) : ∃ x : UInt8, Value.int .u8 n = byteV x := by
  have hb := bounds_u8 h
  refine ⟨UInt8.ofNat n.toNat, ?_⟩
  unfold byteV
  congr 1
  simp
  omega

theorem reads_of_trod : (t : Ty) →
    (t.isField = false → ∀ (tid : TypeId) (fuel : Nat) (cs : List Value) (y : DataW H × List MemPlace), t.fits P tid [] 0 = true → DataW.trod enc P w base spare held fuel tid cs = some y → ∃ x : t.T, Reads w t x cs) ∧
    (t.isField = true → ∀ (tid : TypeId) (fs : List Field) (off n : Nat) (cs : List Value), t.fits P tid fs off = true →
      (∀ f ∈ fs, ∃ y, DataW.trod enc P w base spare held n f.type ((cs.drop f.offset).take (P.cellsOf f.type)) = some y) → cs.length = off + t.size → ∃ x : t.T, Reads w t x (cs.drop off))
  | .byte => by
    refine ⟨fun _ tid fuel cs y hf h => ?_, fun h => by cases h⟩
    unfold Ty.fits at hf
    split at hf
    · rename_i hu
      obtain ⟨n, rfl, _, hw⟩ := DataW.trod_int hu h
      obtain ⟨x, hx⟩ := wf_u8_byte hw
      exact ⟨x, reads_byte.2 (by rw [hx])⟩
    · cases hf
  | .u32 => by
    refine ⟨fun _ tid fuel cs y hf h => ?_, fun h => by cases h⟩
    unfold Ty.fits at hf
    split at hf
    · rename_i hu
      obtain ⟨n, rfl, _, hw⟩ := DataW.trod_int hu h
      have hb := bounds_u32 hw
      refine ⟨n.toNat, reads_u32.2 ⟨?_, by omega⟩⟩
      rw [show ((n.toNat : Nat) : Int) = n by omega]
    · cases hf
  | .int => by
    refine ⟨fun _ tid fuel cs y hf h => ?_, fun h => by cases h⟩
    unfold Ty.fits at hf
    split at hf
    · rename_i hu
      obtain ⟨n, rfl, _, hw⟩ := DataW.trod_int hu h
      exact ⟨n, reads_int.2 ⟨rfl, bounds_i64 hw⟩⟩
    · cases hf
  | .bool => by
    refine ⟨fun _ tid fuel cs y hf h => ?_, fun h => by cases h⟩
    unfold Ty.fits at hf
    split at hf
    · rename_i hu
      obtain ⟨n, rfl, _⟩ := DataW.trod_bool hu h
      exact ⟨n, reads_bool.2 rfl⟩
    · cases hf
  | .sl e => by
    refine ⟨fun _ tid fuel cs y hf h => ?_, fun h => by cases h⟩
    unfold Ty.fits at hf
    split at hf
    · rename_i e' hu
      simp only [Bool.and_eq_true, beq_iff_eq, Bool.not_eq_true', bne_iff_ne] at hf
      obtain ⟨⟨⟨hf, hs⟩, hne⟩, hs0⟩ := hf
      rcases DataW.trod_slice hu h with ⟨rfl, _⟩ | ⟨a, len, cap, elems, rest, n, _, rfl, _, hb, hl, hm, hlen, hel, _⟩
      · refine ⟨([] : List e.T), reads_sl.2 ?_⟩
        exact ⟨none, 0, rfl, by simp, by simp [maxLen], .inl rfl⟩
      · have each : ∀ i, i < len → ∃ x : e.T, ∃ es : List Value, (∀ j, j < e.size → w.cell? ⟨a.block, a.off + i * e.size + j, none⟩ = es[j]?) ∧ Reads w e x es := by
          intro i hi
          have h1 := hel i hi
          rw [List.getElem?_eq_getElem (by omega)] at h1
          obtain ⟨es, hc, ht⟩ := Option.bind_eq_some_iff.1 h1
          obtain ⟨_, hcl, hcc⟩ := World.cells?_some hc
          obtain ⟨x, hx⟩ := (reads_of_trod e).1 hne _ _ _ _ hf ht
          refine ⟨x, es, fun j hj => ?_, hx⟩
          rw [hs] at hcl hcc
          have h2 := hcc j hj
          rw [List.getElem?_eq_getElem (by omega)] at h2
          have h3 : (a.add (i * e.size)).add j = ⟨a.block, a.off + i * e.size + j, none⟩ := by
            have h0 := hcc 0 (by omega)
            rw [List.getElem?_eq_getElem (by omega)] at h0
            have h5 := addr_of_cell h2
            rw [h5]
            unfold Addr.add
            split
            · rename_i hz; rw [hz]; simp
            · rfl
          rw [h3] at h2
          rw [h2, List.getElem?_eq_getElem (by omega)]
        obtain ⟨l, hll, hlr⟩ := choose_list len each
        refine ⟨l, reads_sl.2 ?_⟩
        refine ⟨some a, cap, by rw [hll], by rw [hll]; exact hl, hm, ?_⟩
        rcases Nat.eq_zero_or_pos len with h0 | h0
        · exact .inl (List.eq_nil_of_length_eq_zero (by omega))
        · refine .inr ⟨a.block, a.off, ?_, fun i hi => hlr i hi⟩
          have h1 := hel 0 h0
          rw [List.getElem?_eq_getElem (by omega)] at h1
          obtain ⟨es, hc, _⟩ := Option.bind_eq_some_iff.1 h1
          obtain ⟨_, hcl, hcc⟩ := World.cells?_some hc
          have h2 := hcc 0 (by omega)
          rw [List.getElem?_eq_getElem (by omega)] at h2
          have hsp := World.cell?_spot h2
          have e1 : (a.add (0 * P.cellsOf e')).add 0 = a := by unfold Addr.add; simp
          rw [e1] at hsp
          cases a
          simp_all
    · cases hf
  | .unit => by
    refine ⟨(fun h => by cases h), fun _ tid fs off n cs hf _ hlen => ⟨(), reads_unit.2 ?_⟩⟩
    simp [Ty.size] at hlen
    exact List.drop_eq_nil_iff.2 (by omega)
  | .prod a b => by
    refine ⟨(fun h => by cases h), fun _ tid fs off n cs hf hx hlen => ?_⟩
    unfold Ty.fits at hf
    split at hf
    · rename_i f fs
      simp only [Bool.and_eq_true, beq_iff_eq, Bool.not_eq_true'] at hf
      obtain ⟨⟨⟨⟨⟨ho, hs⟩, ha⟩, hna⟩, hnb⟩, hb⟩ := hf
      obtain ⟨y, hy⟩ := hx f (by simp)
      obtain ⟨x1, r1⟩ := (reads_of_trod a).1 hna _ _ _ _ ha hy
      have hl2 : cs.length = off + a.size + b.size := by simp [Ty.size] at hlen; omega
      obtain ⟨x2, r2⟩ := (reads_of_trod b).2 hnb tid fs (off + a.size) n cs hb (fun g hg => hx g (by simp [hg])) hl2
      refine ⟨(x1, x2), reads_prod.2 ?_⟩
      refine ⟨_, _, ?_, r1, r2⟩
      rw [ho, hs, ← List.drop_drop]
      exact (List.take_append_drop a.size (cs.drop off)).symm
    · cases hf
  | .st p => by
    refine ⟨fun _ tid fuel cs y hf h => ?_, fun h => by cases h⟩
    unfold Ty.fits at hf
    split at hf
    · rename_i fs hu
      simp only [Bool.and_eq_true, beq_iff_eq] at hf
      obtain ⟨⟨hf, hs⟩, hp⟩ := hf
      obtain ⟨xs, n, _, _, hl, hxl, hx⟩ := DataW.trod_struct hu h
      have hx' : ∀ f ∈ fs.toList, ∃ y, DataW.trod enc P w base spare held n f.type ((cs.drop f.offset).take (P.cellsOf f.type)) = some y := by
        intro f hf'
        obtain ⟨i, hi, hfi⟩ := List.getElem_of_mem hf'
        have hi' : i < fs.size := by simpa using hi
        have := hx i f (by rw [Array.getElem?_eq_getElem hi']; congr 1)
        exact ⟨xs[i]'(by omega), by rw [this]; exact List.getElem?_eq_getElem _⟩
      obtain ⟨x, hr⟩ := (reads_of_trod p).2 hp tid fs.toList 0 n cs hf hx' (by omega)
      exact ⟨x, reads_st.2 (by simpa using hr)⟩
    · cases hf
  | .arr m e => by
    refine ⟨fun _ tid fuel cs y hf h => ?_, fun h => by cases h⟩
    unfold Ty.fits at hf
    split at hf
    · rename_i m' e' hu
      simp only [Bool.and_eq_true, beq_iff_eq, Bool.not_eq_true'] at hf
      obtain ⟨⟨⟨⟨hm, hf⟩, hs⟩, hc⟩, hne⟩ := hf
      subst hm
      obtain ⟨xs, n, _, _, hl, hxl, hx⟩ := DataW.trod_array hu h
      have each : ∀ i, i < m' → ∃ x : e.T, Reads w e x ((cs.drop (i * e.size)).take e.size) := by
        intro i hi
        have h1 := hx i hi
        rw [hs, List.getElem?_eq_getElem (by omega)] at h1
        exact (reads_of_trod e).1 hne _ _ _ _ hf h1
      obtain ⟨l, hll, hlr⟩ := choose_list m' each
      exact ⟨l, reads_arr.2 ⟨hll, by omega, hlr⟩⟩
    · cases hf

/-- An argument, opened. -/
theorem open_any {t : Ty} {tid : TypeId} {v : Value} {d : DataW H} {ps : List MemPlace} (hn : t.isField = false) (hf : t.fits P tid [] 0 = true) (h : DataW.Trod enc P w base spare held tid v d ps) :
    ∃ x : t.T, Reads w t x v.cells.toList := by
  obtain ⟨fuel, h⟩ := h
  exact (reads_of_trod t).1 hn _ _ _ _ hf h
end

/-! ### the shapes of what comes in -/
def aggType (P : Program) (t : TypeId) : Bool := match P.underlying t with | some (.struct _) | some (.array _ _) => true | _ => false
theorem val_agg {P : Program} {w : World} {r : Reach} {b : Nat} {t : TypeId} {v : Value} (ht : aggType P t = true) (h : Value.okWide P w r b t v) : v = .agg v.cells.toList.toArray := by
  unfold aggType at ht
  unfold Value.okWide at h
  split at ht
  · rename_i hu
    rw [hu] at h
    obtain ⟨cs, rfl, _⟩ := h
    simp [Value.cells]
  · rename_i hu
    rw [hu] at h
    obtain ⟨cs, rfl, _⟩ := h
    simp [Value.cells]
  · cases ht
theorem reads_single {w : World} {t : Ty} {x : t.T} {v : Value} (h : Reads w t x v.cells.toList) (hv : v.cells.toList = [v]) : Reads w t x [v] := by rw [← hv]; exact h
theorem cells_plain {P : Program} {w : World} {r : Reach} {b : Nat} {t : TypeId} {v : Value} (hi : (match P.underlying t with | some (.int _) | some .bool | some (.slice _) => true | _ => false) = true) (h : Value.okWide P w r b t v) : v.cells.toList = [v] := by
  split at hi
  · rename_i hu
    obtain ⟨n, rfl⟩ := okWide_int hu h
    rfl
  · rename_i hu
    obtain ⟨n, rfl⟩ := okWide_bool hu h
    rfl
  · rename_i hu
    obtain ⟨a, l, c, rfl⟩ := okWide_slice hu h
    rfl
  · cases hi

section
variable {w : World} {v : Value}
theorem one_byte {x : UInt8} (h : Reads w .byte x [v]) : v = .int .u8 (x.toNat : Int) := by simpa [byteV] using reads_byte.1 h
theorem one_u32 {n : Nat} (h : Reads w .u32 n [v]) : v = .int .u32 (n : Int) ∧ n < 2 ^ 32 := by simpa using reads_u32.1 h
theorem one_int {n : Int} (h : Reads w .int n [v]) : v = .int .i64 n ∧ IsInt n := by have := reads_int.1 h; exact ⟨by simpa using this.1, this.2⟩
theorem one_bool {b : Bool} (h : Reads w .bool b [v]) : v = .bool b := by simpa using reads_bool.1 h
theorem one_bytes {bs : List UInt8} (h : Reads w (.sl .byte) bs [v]) : ∃ A c, v = .slice A bs.length c ∧ bs.length ≤ c ∧ c ≤ maxLen ∧ Bs w A bs.length bs := by
  obtain ⟨A, c, hv, hn, hm, h⟩ := reads_sl.1 h
  have hv' : v = .slice A bs.length c := (List.cons.inj hv).1
  refine ⟨A, c, hv', hn, hm, rfl, ?_⟩
  rcases h with h | ⟨b, off, hA, h⟩
  · have hb : bs = [] := h
    exact .inl (by rw [hb]; rfl)
  · refine .inr ⟨b, off, hA, fun j hj => ?_⟩
    have hj' : j < bs.length := by simpa using hj
    obtain ⟨es, hc, hr⟩ := h j hj'
    have hr' : es = [byteV (bs[j]'hj')] := reads_byte.1 hr
    have h0 := hc 0 (by decide)
    rw [hr'] at h0
    have e1 : (bs.map byteV)[j]? = some (byteV (bs[j]'hj')) := by simp [hj']
    rw [e1]
    simpa [Ty.size] using h0
end
end Go.Proofs.Ytclbihcggjjgaaa
