/- Data with depth: a list of numbers is copied. -/
import Derived.Test.YtclbihcggjjgaaaDeep2
namespace Go.Proofs.Ytclbihcggjjgaaa
open Go.RowKit

def Ty.flat : Ty → Bool
  | byte | u32 | int | bool => true
  | _ => false
def encT : (e : Ty) → e.T → Value
  | .byte, x => byteV x
  | .u32, n => .int .u32 ((show Nat from n : Nat) : Int)
  | .int, n => .int .i64 (show Int from n)
  | .bool, b => .bool b
  | _, _ => undef
theorem flat_size {e : Ty} (h : e.flat = true) : e.size = 1 := by cases e <;> simp_all [Ty.flat, Ty.size]
theorem flat_enc {w : World} {S : Nat → Prop} {e : Ty} (h : e.flat = true) {x : e.T} {es : List Value} (hr : RdIn w S e x es) : es = [encT e x] := by
  cases e with
  | byte => exact rdin_byte.1 hr
  | u32 => exact (rdin_u32.1 hr).1
  | int => exact (rdin_int.1 hr).1
  | bool => exact rdin_bool.1 hr
  | _ => cases h
theorem flat_any {w w' : World} {S S' : Nat → Prop} {e : Ty} (h : e.flat = true) {x : e.T} {es : List Value} (hr : RdIn w S e x es) : RdIn w' S' e x es := by
  cases e with
  | byte => exact hr
  | u32 => exact hr
  | int => exact hr
  | bool => exact hr
  | _ => cases h
/-- a list of numbers, as cells -/
theorem RdIn.row {w : World} {S : Nat → Prop} {e : Ty} (he : e.flat = true) {xs : List e.T} {A : Option Addr} {n c : Nat} (h : RdIn w S (.sl e) xs [.slice A n c]) : xs.length = n ∧ Rd w A (xs.map (encT e)) := by
  obtain ⟨A', c', h1, _, _, _, h⟩ := rdin_sl.1 h
  injection h1 with h1 _
  injection h1 with h1 h2 h3
  refine ⟨h2.symm, ?_⟩
  rcases h with h | ⟨b, off, hA, _, h⟩
  · exact .inl (by rw [h]; rfl)
  · refine .inr ⟨b, off, h1.trans hA, fun j hj => ?_⟩
    have hj' : j < xs.length := by simpa using hj
    obtain ⟨es, hc, hr⟩ := h j hj'
    have h0 := hc 0 (by rw [flat_size he]; decide)
    rw [flat_enc he hr, flat_size he] at h0
    simpa [hj'] using h0
theorem RdIn.bytes_bs {w : World} {S : Nat → Prop} {bs : List UInt8} {A : Option Addr} {n c : Nat} (h : RdIn w S (.sl .byte) bs [.slice A n c]) : Bs w A n bs := by
  have h1 := RdIn.row (e := .byte) rfl h
  exact ⟨h1.1, h1.2⟩
theorem RdIn.bytes {w : World} {S : Nat → Prop} {bs : List UInt8} {v : Value} (h : RdIn w S (.sl .byte) bs [v]) : ∃ A c, v = .slice A bs.length c ∧ Bs w A bs.length bs := by
  obtain ⟨A, c, h1, _⟩ := rdin_sl.1 h
  have hv : v = .slice A bs.length c := (List.cons.inj h1).1
  subst hv
  exact ⟨A, c, rfl, RdIn.bytes_bs h⟩

section
variable {P : Program} {w : World}
/-- 'append(nil, xs...)' of numbers -/
theorem wp_copyL {o : Oper} {a : Act} {K : Act → World → Prop} {Q : Exit → Act → World → Prop} (s x : Operand) (t : TypeId)
    (ho : o.op = .call { callee := .builtin .append, args := #[s, x], argTypes := #[t, t] })
    (tid : TypeId) (i : TypeInfo) (z : Value) (e : Ty) (he : e.flat = true) (ht : P.underlying t = some (.slice tid)) (hi : P.info? tid = some i) (hz : i.zero = some z)
    (hsize : i.size = 1) (hby : i.bytes = e.bytes) (hzs : z.cells.size = 1)
    (hs : a.eval s = .slice none 0 0) (S : Nat → Prop) (xs : List e.T) (A : Option Addr) (m c : Nat) (hx : a.eval x = .slice A m c) (hr : RdIn w S (.sl e) xs [.slice A m c])
    (h : ∀ v' w', RdIn w' (NewB w.heap.size w') (.sl e) xs [v'] → Below w.heap.size w w' → K (a.put o.dst v') w') : o.wp P a w K Q := by
  obtain ⟨hl, hrd⟩ := hr.row he
  obtain ⟨A', c', h1, hn, hm, hb, hel⟩ := rdin_sl.1 hr
  injection h1 with h1 _
  injection h1 with _ _ hcc
  subst hcc
  have hplain : ∀ u ∈ xs.map (encT e), u.oneCell' = true := by
    intro u hu
    rw [List.mem_map] at hu
    obtain ⟨y, _, rfl⟩ := hu
    cases e <;> first | rfl | cases he
  refine wp_append_rd w s x t ho w.heap.size tid i z 1 e.bytes ht hi hz hsize hby hzs (by decide) (.slice none 0 0) 0 [] hs ⟨rfl, .inl ⟨rfl, rfl⟩⟩ A m c (xs.map (encT e)) hx (by simp [hl]) hrd hplain (by omega) (by rw [Nat.zero_add, ← hl]; exact hb) (Nat.le_refl _) ?_
  intro v' w' h2 h3 _
  rw [Nat.zero_add, List.nil_append] at h2
  have bl : Below w.heap.size w w' := (Below.refl _ _).grown h3 (Nat.le_refl _) (fun k e => by cases e)
  refine h v' w' ?_ bl
  rcases h2.2 with ⟨rfl, h0⟩ | ⟨g, cap, cur, rfl, hg, hh, hnc, hcm, hsz, htk⟩
  · have hx0 : xs = [] := List.eq_nil_of_length_eq_zero (by omega)
    subst hx0
    exact rdin_sl.2 ⟨none, 0, rfl, by simp, by simp [maxLen], by simp, .inl rfl⟩
  · subst hl
    refine rdin_sl.2 ⟨some ⟨g, 0, none⟩, cap, rfl, hnc, hcm, hb, .inr ⟨g, 0, rfl, ⟨hg, (Array.getElem?_eq_some_iff.1 hh).1, _, _, hh⟩, fun j hj => ⟨[encT e xs[j]], fun q hq => ?_, ?_⟩⟩⟩
    · rw [flat_size he] at hq ⊢
      have hq0 : q = 0 := by omega
      subst hq0
      show w'.cell? ⟨g, 0 + j * 1 + 0, none⟩ = _
      rw [Nat.zero_add, Nat.add_zero, Nat.mul_one, cell_of_row w' g _ cur tid (0, 0) hh]
      have h4 : (xs.map (encT e))[j]? = some (encT e xs[j]) := by simp [hj]
      rw [← htk, List.getElem?_take, if_pos (by omega)] at h4
      simpa using h4
    · rcases hel with h0 | ⟨b, off, _, _, h5⟩
      · rw [h0] at hj; simp at hj
      · obtain ⟨es, _, hr5⟩ := h5 j hj
        have := flat_enc he hr5
        subst this
        exact flat_any he hr5
theorem wpList_copyL {ops : Array Oper} {rest : List Oper} {o : Oper} {a : Act} {Q : Exit → Act → World → Prop} (hgd : o.guard = none) (s x : Operand) (t : TypeId)
    (ho : o.op = .call { callee := .builtin .append, args := #[s, x], argTypes := #[t, t] })
    (tid : TypeId) (i : TypeInfo) (z : Value) (e : Ty) (he : e.flat = true) (ht : P.underlying t = some (.slice tid)) (hi : P.info? tid = some i) (hz : i.zero = some z)
    (hsize : i.size = 1) (hby : i.bytes = e.bytes) (hzs : z.cells.size = 1)
    (hs : a.eval s = .slice none 0 0) (S : Nat → Prop) (xs : List e.T) (A : Option Addr) (m c : Nat) (hx : a.eval x = .slice A m c) (hr : RdIn w S (.sl e) xs [.slice A m c])
    (h : ∀ v' w', RdIn w' (NewB w.heap.size w') (.sl e) xs [v'] → Below w.heap.size w w' → wpList P ops Q rest (a.put o.dst v') w') : wpList P ops Q (o :: rest) a w :=
  wpList_plain hgd fun _ hK => wp_copyL s x t ho tid i z e he ht hi hz hsize hby hzs hs S xs A m c hx hr fun v' w' h2 h3 => hK _ _ (h v' w' h2 h3)
end
end Go.Proofs.Ytclbihcggjjgaaa
