/- Data with depth: what holds when numbers in it are written; lists that a call makes itself. -/
import Derived.Test.YtclbihcggjjgaaaDeep
import Derived.Test.YtclbihcggjjgaaaBox2
namespace Go.Proofs.Ytclbihcggjjgaaa
open Go.RowKit

/-! ### numbers are written -/
def InK : IntKind → Int → Prop
  | .u8, n => 0 ≤ n ∧ n < 256
  | .u32, n => 0 ≤ n ∧ n < 2 ^ 32
  | .i64, n => IsInt n
  | _, _ => True
def LikeV (v v' : Value) : Prop := v' = v ∨ ∃ k n n', v = .int k n ∧ v' = .int k n' ∧ InK k n'
def Like (cs cs' : List Value) : Prop := cs.length = cs'.length ∧ ∀ (i : Nat) (v v' : Value), cs[i]? = some v → cs'[i]? = some v' → LikeV v v'
theorem Like.refl (cs : List Value) : Like cs cs := ⟨rfl, fun i v v' h h' => .inl (by rw [h] at h'; exact (Option.some.inj h').symm)⟩
theorem Like.one {v : Value} {cs' : List Value} (h : Like [v] cs') : ∃ v', cs' = [v'] ∧ LikeV v v' := by
  obtain ⟨h1, h2⟩ := h
  match cs', h1 with
  | [v'], _ => exact ⟨v', rfl, h2 0 v v' rfl rfl⟩
theorem Like.nil {cs' : List Value} (h : Like [] cs') : cs' = [] := List.eq_nil_of_length_eq_zero h.1.symm
theorem Like.split {c1 c2 cs' : List Value} (h : Like (c1 ++ c2) cs') : ∃ d1 d2, cs' = d1 ++ d2 ∧ Like c1 d1 ∧ Like c2 d2 := by
  have hl := h.1
  rw [List.length_append] at hl
  refine ⟨cs'.take c1.length, cs'.drop c1.length, (List.take_append_drop _ _).symm, ⟨by simp; omega, fun i v v' h1 h2 => ?_⟩, ⟨by simp; omega, fun i v v' h1 h2 => ?_⟩⟩
  · have hi : i < c1.length := (List.getElem?_eq_some_iff.1 h1).1
    refine h.2 i v v' (by rw [List.getElem?_append_left hi]; exact h1) ?_
    rw [List.getElem?_take, if_pos hi] at h2
    exact h2
  · refine h.2 (c1.length + i) v v' (by rw [List.getElem?_append_right (by omega), Nat.add_sub_cancel_left]; exact h1) ?_
    rw [List.getElem?_drop] at h2
    exact h2
theorem Like.part {cs cs' : List Value} (h : Like cs cs') (i n : Nat) : Like ((cs.drop i).take n) ((cs'.drop i).take n) := by
  refine ⟨by simp [h.1], fun j v v' h1 h2 => ?_⟩
  rw [List.getElem?_take] at h1 h2
  split at h1
  · rename_i hj
    rw [if_pos hj] at h2
    rw [List.getElem?_drop] at h1 h2
    exact h.2 _ _ _ h1 h2
  · cases h1

/-- the cells of a world, but one number -/
def NumAt (w w' : World) : Prop := ∀ p v, w.cell? p = some v → ∃ v', w'.cell? p = some v' ∧ LikeV v v'
theorem NumAt.cells {w w' : World} (hw : NumAt w w') {b o n : Nat} {es : List Value} (hl : es.length = n) (hc : ∀ j, j < n → w.cell? ⟨b, o + j, none⟩ = es[j]?) :
    ∃ es' : List Value, es'.length = n ∧ (∀ j, j < n → w'.cell? ⟨b, o + j, none⟩ = es'[j]?) ∧ Like es es' := by
  have hx : ∀ j, j < n → ∃ v', w'.cell? ⟨b, o + j, none⟩ = some v' ∧ LikeV (es.getD j undef) v' := by
    intro j hj
    have h1 := hc j hj
    rw [List.getElem?_eq_getElem (by omega)] at h1
    obtain ⟨v', h2, h3⟩ := hw _ _ h1
    refine ⟨v', h2, ?_⟩
    rw [List.getD_eq_getElem?_getD, List.getElem?_eq_getElem (by omega)]
    exact h3
  obtain ⟨l, hll, hlr⟩ := choose_list (R := fun j v' => w'.cell? ⟨b, o + j, none⟩ = some v' ∧ LikeV (es.getD j undef) v') n hx
  refine ⟨l, hll, fun j hj => ?_, by omega, fun j v v' h1 h2 => ?_⟩
  · rw [List.getElem?_eq_getElem (by omega)]
    exact (hlr j (by omega)).1
  · obtain ⟨hj, rfl⟩ := List.getElem?_eq_some_iff.1 h2
    have h3 := (hlr j hj).2
    rw [List.getD_eq_getElem?_getD, h1] at h3
    exact h3

theorem RdIn.numbers {w w' : World} {S : Nat → Prop} (hw : NumAt w w') : (t : Ty) → {x : t.T} → {cs cs' : List Value} → RdIn w S t x cs → Like cs cs' → ∃ x' : t.T, RdIn w' S t x' cs'
  | .byte, x, _, cs', h, hl => by
    obtain rfl := rdin_byte.1 h
    obtain ⟨v', rfl, hv⟩ := hl.one
    rcases hv with rfl | ⟨k, n, n', e, rfl, hk⟩
    · exact ⟨x, rdin_byte.2 rfl⟩
    · unfold byteV at e
      injection e with e1 e2
      subst e1
      obtain ⟨h1, h2⟩ := hk
      refine ⟨UInt8.ofNat n'.toNat, rdin_byte.2 ?_⟩
      unfold byteV
      congr 2
      simp
      omega
  | .u32, x, _, cs', h, hl => by
    obtain ⟨rfl, hx⟩ := rdin_u32.1 h
    obtain ⟨v', rfl, hv⟩ := hl.one
    rcases hv with rfl | ⟨k, n, n', e, rfl, hk⟩
    · exact ⟨x, rdin_u32.2 ⟨rfl, hx⟩⟩
    · injection e with e1 e2
      subst e1
      obtain ⟨h1, h2⟩ := hk
      refine ⟨n'.toNat, rdin_u32.2 ⟨?_, by omega⟩⟩
      rw [show ((n'.toNat : Nat) : Int) = n' by omega]
  | .int, x, _, cs', h, hl => by
    obtain ⟨rfl, hx⟩ := rdin_int.1 h
    obtain ⟨v', rfl, hv⟩ := hl.one
    rcases hv with rfl | ⟨k, n, n', e, rfl, hk⟩
    · exact ⟨x, rdin_int.2 ⟨rfl, hx⟩⟩
    · injection e with e1 e2
      subst e1
      exact ⟨n', rdin_int.2 ⟨rfl, hk⟩⟩
  | .bool, x, _, cs', h, hl => by
    obtain rfl := rdin_bool.1 h
    obtain ⟨v', rfl, hv⟩ := hl.one
    rcases hv with rfl | ⟨k, n, n', e, rfl, hk⟩
    · exact ⟨x, rdin_bool.2 rfl⟩
    · cases e
  | .sl e, xs, _, cs', h, hl => by
    obtain ⟨A, c, rfl, hn, hm, hz, h⟩ := rdin_sl.1 h
    obtain ⟨v', rfl, hv⟩ := hl.one
    rcases hv with rfl | ⟨k, n, n', e', rfl, hk⟩
    · rcases h with h | ⟨b, off, hA, hb, h⟩
      · exact ⟨xs, rdin_sl.2 ⟨A, c, rfl, hn, hm, hz, .inl h⟩⟩
      · have hx : ∀ i, i < xs.length → ∃ x' : e.T, ∃ es : List Value, (∀ j, j < e.size → w'.cell? ⟨b, off + i * e.size + j, none⟩ = es[j]?) ∧ RdIn w' S e x' es := by
          intro i hi
          obtain ⟨es, hc, hr⟩ := h i hi
          obtain ⟨es', hl', hc', hlk⟩ := hw.cells hr.len hc
          obtain ⟨x', hr'⟩ := RdIn.numbers hw e hr hlk
          exact ⟨x', es', hc', hr'⟩
        obtain ⟨l, hll, hlr⟩ := choose_list xs.length hx
        have hll' : List.length (α := e.T) l = List.length (α := e.T) xs := hll
        exact ⟨l, rdin_sl.2 ⟨A, c, by rw [hll'], by rw [hll']; exact hn, hm, by rw [hll']; exact hz, .inr ⟨b, off, hA, hb, fun i hi => hlr i hi⟩⟩⟩
    · cases e'
  | .unit, x, _, cs', h, hl => by
    obtain rfl := rdin_unit.1 h
    exact ⟨x, rdin_unit.2 hl.nil⟩
  | .prod a b, x, _, cs', h, hl => by
    obtain ⟨c1, c2, rfl, h1, h2⟩ := (show ∃ c1 c2, _ = c1 ++ c2 ∧ _ from h)
    obtain ⟨d1, d2, rfl, l1, l2⟩ := hl.split
    obtain ⟨x1, r1⟩ := RdIn.numbers hw a h1 l1
    obtain ⟨x2, r2⟩ := RdIn.numbers hw b h2 l2
    exact ⟨(x1, x2), rdin_prod.2 ⟨d1, d2, rfl, r1, r2⟩⟩
  | .st p, x, _, cs', h, hl => by
    obtain ⟨x', r⟩ := RdIn.numbers hw p (rdin_st.1 h) hl
    exact ⟨x', rdin_st.2 r⟩
  | .arr m e, xs, cs, cs', h, hl => by
    obtain ⟨h1, h2, h3⟩ := rdin_arr.1 h
    have hx : ∀ i, i < xs.length → ∃ x' : e.T, RdIn w' S e x' ((cs'.drop (i * e.size)).take e.size) := fun i hi => RdIn.numbers hw e (h3 i hi) (hl.part _ _)
    obtain ⟨l, hll, hlr⟩ := choose_list xs.length hx
    have hll' : List.length (α := e.T) l = List.length (α := e.T) xs := hll
    exact ⟨l, rdin_arr.2 ⟨by rw [hll']; exact h1, by rw [← hl.1]; exact h2, fun i hi => hlr i hi⟩⟩

theorem numAt_set {w : World} {a : Addr} {k : IntKind} {n n' : Int} (h : w.cell? a = some (.int k n)) (hk : InK k n') : NumAt w (w.setCell a (.int k n')) := by
  intro p v hv
  by_cases e : p = a
  · subst e
    rw [h] at hv
    obtain rfl := Option.some.inj hv
    exact ⟨_, World.cell?_setCell_same w p _ h, .inr ⟨k, n, n', rfl, rfl, hk⟩⟩
  · exact ⟨v, by rw [World.cell?_setCell_other (h := fun h => e h.symm)]; exact hv, .inl rfl⟩
/-- there is something that reads so -/
def Shp (w : World) (S : Nat → Prop) (t : Ty) (cs : List Value) : Prop := ∃ x : t.T, RdIn w S t x cs
theorem Shp.num {w w' : World} {S : Nat → Prop} {t : Ty} {cs : List Value} (h : Shp w S t cs) (hw : NumAt w w') : Shp w' S t cs := by
  obtain ⟨x, hx⟩ := h
  exact RdIn.numbers hw t hx (Like.refl cs)

/-! ### lists that a call makes -/
/-- a row of cells that may be written -/
def Live (w : World) (b : Nat) : Prop := ∃ cs t, w.heap[b]? = some (.cells cs t (0, 0))
theorem Live.lt {w : World} {b : Nat} (h : Live w b) : b < w.heap.size := by
  obtain ⟨_, _, h⟩ := h
  exact (Array.getElem?_eq_some_iff.1 h).1
theorem Live.below {w w' : World} {b : Nat} (h : Live w b) (hb : Below w.heap.size w w') : Live w' b := by
  have hl := h.lt
  obtain ⟨cs, t, h⟩ := h
  exact ⟨cs, t, by rw [hb.block b hl]; exact h⟩
theorem Live.set {w : World} {b : Nat} (h : Live w b) (a : Addr) (v : Value) : Live (w.setCell a v) b := by
  obtain ⟨cs, t, h⟩ := h
  by_cases e : b = a.block
  · subst e
    exact ⟨_, t, by simp [World.setCell, Array.getElem?_modify, h]; rfl⟩
  · exact ⟨cs, t, by rw [Below.heap_setCell _ _ _ _ e]; exact h⟩
theorem Live.grown {w w' : World} {b : Nat} {row : Option Nat} (h : Live w b) (hg : w.grownBy w' row) (hne : some b ≠ row) : Live w' b := by
  have hl := h.lt
  obtain ⟨cs, t, h⟩ := h
  exact ⟨cs, t, by rw [hg.block b hl hne]; exact h⟩
theorem Live.free {w : World} {b : Nat} (h : Live w b) (o : Nat) : w.frozen? ⟨b, o, none⟩ = false := by
  obtain ⟨cs, t, h⟩ := h
  simp [World.frozen?, h]
/-- memory that is new behind a call -/
def NewB (base : Nat) (w : World) (b : Nat) : Prop := base ≤ b ∧ b < w.heap.size ∧ Live w b
def Fresh (w : World) (base : Nat) (v : Value) (b : Nat) : Prop := base ≤ b ∧ b < w.heap.size ∧ v.ownBlock ≠ some b ∧ Live w b
def OwnL (w : World) (base : Nat) (tid : TypeId) (e : Ty) (v : Value) (xs : List e.T) : Prop :=
  ∃ ess : List (List Value), ess.length = xs.length ∧ (∀ i (h : i < xs.length) (h' : i < ess.length), RdIn w (Fresh w base v) e xs[i] ess[i]) ∧ w.ownsRow base tid e.size v xs.length ess.flatten
theorem OwnL.nil (w : World) (base : Nat) (tid : TypeId) (e : Ty) : OwnL w base tid e (.slice none 0 0) [] := ⟨[], rfl, fun i h => absurd h (by simp), by simp, .inl ⟨rfl, rfl⟩⟩
theorem Fresh.next {w w' : World} {base : Nat} {v : Value} {b : Nat} (h : Fresh w base v b) (hb : Below w.heap.size w w') : Fresh w' base v b := ⟨h.1, Nat.lt_of_lt_of_le h.2.1 hb.size, h.2.2.1, h.2.2.2.below hb⟩
theorem OwnL.next {w w' : World} {base : Nat} {tid : TypeId} {e : Ty} {v : Value} {xs : List e.T} (h : OwnL w base tid e v xs) (hb : Below w.heap.size w w') : OwnL w' base tid e v xs := by
  obtain ⟨ess, hl, hr, ho⟩ := h
  exact ⟨ess, hl, fun i h h' => ((hr i h h').below hb).mono fun b hb' => hb'.next hb, own_next ho hb⟩
theorem flatten_at {n : Nat} : ∀ (ess : List (List Value)), (∀ es ∈ ess, es.length = n) → ∀ i j, j < n → ess.flatten[i * n + j]? = (ess[i]?).bind fun es => es[j]? := by
  intro ess
  induction ess with
  | nil => intro _ i j _; simp
  | cons a ess ih =>
    intro h i j hj
    have ha := h a (by simp)
    rw [List.flatten_cons]
    rcases i with _ | i
    · rw [List.getElem?_append_left (by omega)]
      simp
    · rw [List.getElem?_append_right (by rw [ha, Nat.add_mul]; omega), ha, show (i + 1) * n + j - n = i * n + j by rw [Nat.add_mul]; omega, ih (fun es he => h es (by simp [he])) i j hj]
      simp
theorem OwnL.rdin {w : World} {base : Nat} {tid : TypeId} {e : Ty} {v : Value} {xs : List e.T} (h : OwnL w base tid e v xs) (hz : xs.length * e.bytes ≤ 140737488355328) : RdIn w (NewB base w) (.sl e) xs [v] := by
  obtain ⟨ess, hl, hr, ho⟩ := h
  have hes : ∀ es ∈ ess, es.length = e.size := by
    intro es he
    obtain ⟨i, hi, rfl⟩ := List.getElem_of_mem he
    exact (hr i (by omega) hi).len
  rcases ho.2 with ⟨rfl, h0⟩ | ⟨g, cap, cur, rfl, hb, hg, hn, hm, hsz, htk⟩
  · have hx : xs = [] := List.eq_nil_of_length_eq_zero h0
    subst hx
    exact rdin_sl.2 ⟨none, 0, rfl, by simp, by simp [maxLen], by simp, .inl rfl⟩
  · refine rdin_sl.2 ⟨some ⟨g, 0, none⟩, cap, rfl, hn, hm, hz, .inr ⟨g, 0, rfl, ⟨hb, (Array.getElem?_eq_some_iff.1 hg).1, _, _, hg⟩, fun i hi => ⟨ess[i]'(by omega), fun j hj => ?_, (hr i hi (by omega)).mono fun b hb => ⟨hb.1, hb.2.1, hb.2.2.2⟩⟩⟩⟩
    have h1 := flatten_at ess hes i j hj
    rw [List.getElem?_eq_getElem (show i < ess.length by omega)] at h1
    show w.cell? ⟨g, 0 + i * e.size + j, none⟩ = _
    rw [Nat.zero_add, cell_of_row w g _ cur tid (0, 0) hg]
    have h2 : i * e.size + j < xs.length * e.size := by
      have : (i + 1) * e.size ≤ xs.length * e.size := Nat.mul_le_mul_right _ (by omega)
      rw [Nat.add_mul] at this
      omega
    rw [← htk, List.getElem?_take, if_pos h2] at h1
    simpa using h1
theorem RdIn.plain {w : World} {S : Nat → Prop} : (t : Ty) → {x : t.T} → {cs : List Value} → RdIn w S t x cs → ∀ u ∈ cs, u.oneCell' = true
  | .byte, _, _, h => by obtain rfl := rdin_byte.1 h; intro u hu; simp at hu; subst hu; rfl
  | .u32, _, _, h => by obtain ⟨rfl, _⟩ := rdin_u32.1 h; intro u hu; simp at hu; subst hu; rfl
  | .int, _, _, h => by obtain ⟨rfl, _⟩ := rdin_int.1 h; intro u hu; simp at hu; subst hu; rfl
  | .bool, _, _, h => by obtain rfl := rdin_bool.1 h; intro u hu; simp at hu; subst hu; rfl
  | .sl e, _, _, h => by obtain ⟨_, _, rfl, _⟩ := rdin_sl.1 h; intro u hu; simp at hu; subst hu; rfl
  | .unit, _, _, h => by obtain rfl := rdin_unit.1 h; intro u hu; simp at hu
  | .prod a b, _, _, h => by
    obtain ⟨c1, c2, rfl, h1, h2⟩ := (show ∃ c1 c2, _ = c1 ++ c2 ∧ _ from h)
    intro u hu
    rcases List.mem_append.1 hu with hu | hu
    · exact RdIn.plain a h1 u hu
    · exact RdIn.plain b h2 u hu
  | .st p, _, _, h => RdIn.plain p (rdin_st.1 h)
  | .arr m e, xs, cs, h => by
    obtain ⟨h1, h2, h3⟩ := rdin_arr.1 h
    intro u hu
    obtain ⟨i, hi, rfl⟩ := List.getElem_of_mem hu
    by_cases h0 : e.size = 0
    · rw [h0] at h2; omega
    · have hq : i / e.size < xs.length := by
        have hlt : i / e.size < m := Nat.div_lt_of_lt_mul (by rw [Nat.mul_comm]; omega)
        omega
      refine RdIn.plain e (h3 (i / e.size) hq) _ ?_
      rw [List.mem_iff_getElem?]
      refine ⟨i % e.size, ?_⟩
      have hm := Nat.mod_lt i (Nat.pos_of_ne_zero h0)
      rw [List.getElem?_take, if_pos hm, List.getElem?_drop, Nat.mul_comm, Nat.div_add_mod]
      exact List.getElem?_eq_getElem hi

section
variable {P : Program} {w : World}
/-- one more element -/
theorem wp_push {o : Oper} {a : Act} {K : Act → World → Prop} {Q : Exit → Act → World → Prop} (s x : Operand) (t : TypeId)
    (ho : o.op = .call { callee := .builtin .append, args := #[s, x], argTypes := #[t, t] })
    (base : Nat) (tid : TypeId) (i : TypeInfo) (z : Value) (bytes : Nat) (e : Ty) (ht : P.underlying t = some (.slice tid)) (hi : P.info? tid = some i) (hz : i.zero = some z)
    (hsize : i.size = e.size) (hby : i.bytes = bytes) (hzs : z.cells.size = e.size) (hsz : 0 < e.size)
    (v : Value) (xs : List e.T) (hs : a.eval s = v) (hown : OwnL w base tid e v xs)
    (A : Option Addr) (c : Nat) (news : List Value) (hx : a.eval x = .slice A 1 c) (hr : Rd w A news) (y : e.T) (hy : RdIn w (Fresh w base v) e y news)
    (h63 : xs.length + 1 ≤ maxLen) (hbytes : (xs.length + 1) * bytes ≤ 140737488355328) (hbase : base ≤ w.heap.size)
    (h : ∀ v' w', OwnL w' base tid e v' (xs ++ [y]) → w.grownBy w' v.ownBlock → (∀ r, v.ownBlock = some r → base ≤ r) → K (a.put o.dst v') w') : o.wp P a w K Q := by
  obtain ⟨ess, hl, hre, ho2⟩ := hown
  refine wp_append_rd w s x t ho base tid i z e.size bytes ht hi hz hsize hby hzs hsz v _ _ hs ho2 A 1 c news hx (by rw [hy.len]; omega) hr (RdIn.plain e hy) h63 hbytes hbase ?_
  intro v' w' h2 h3 h4
  have keep : ∀ (y : e.T) (es : List Value), RdIn w (Fresh w base v) e y es → RdIn w' (Fresh w' base v') e y es := by
    intro y es hy
    refine hy.keep (S' := Fresh w' base v') (fun p u hp hu => ?_) fun b hb => ?_
    · refine ⟨h3.cell hu (fun e => hp.2.2.1 e.symm), hp.1, Nat.lt_of_lt_of_le hp.2.1 h3.size, ?_, hp.2.2.2.grown h3 (fun e => hp.2.2.1 e.symm)⟩
      rcases h4 with h4 | h4
      · rw [h4]; exact hp.2.2.1
      · rw [h4]
        intro e
        injection e with e
        have := hp.2.1
        omega
    · refine ⟨hb.1, Nat.lt_of_lt_of_le hb.2.1 h3.size, ?_, hb.2.2.2.grown h3 (fun e => hb.2.2.1 e.symm)⟩
      rcases h4 with h4 | h4
      · rw [h4]; exact hb.2.2.1
      · rw [h4]
        intro e
        injection e with e
        have := hb.2.1
        omega
  refine h v' w' ⟨ess ++ [news], by simp [hl], fun j h5 h6 => ?_, ?_⟩ h3 (fun r e => own_block ho2 e)
  · rw [List.length_append, List.length_singleton] at h5
    by_cases hj : j < xs.length
    · rw [List.getElem_append_left hj, List.getElem_append_left (by omega)]
      exact keep _ _ (hre j hj (by omega))
    · have : j = xs.length := by omega
      subst this
      simp only [List.getElem_append_right (Nat.le_refl _), ← hl, Nat.sub_self, List.getElem_singleton]
      simp only [hl]
      have e1 : (xs ++ [y])[xs.length]'(by simp) = y := by simp
      rw [e1]
      exact keep _ _ hy
  · rw [List.length_append, List.length_singleton, List.flatten_append]
    simpa using h2
theorem wpList_push {ops : Array Oper} {rest : List Oper} {o : Oper} {a : Act} {Q : Exit → Act → World → Prop} (hgd : o.guard = none) (s x : Operand) (t : TypeId)
    (ho : o.op = .call { callee := .builtin .append, args := #[s, x], argTypes := #[t, t] })
    (base : Nat) (tid : TypeId) (i : TypeInfo) (z : Value) (bytes : Nat) (e : Ty) (ht : P.underlying t = some (.slice tid)) (hi : P.info? tid = some i) (hz : i.zero = some z)
    (hsize : i.size = e.size) (hby : i.bytes = bytes) (hzs : z.cells.size = e.size) (hsz : 0 < e.size)
    (v : Value) (xs : List e.T) (hs : a.eval s = v) (hown : OwnL w base tid e v xs)
    (A : Option Addr) (c : Nat) (news : List Value) (hx : a.eval x = .slice A 1 c) (hr : Rd w A news) (y : e.T) (hy : RdIn w (Fresh w base v) e y news)
    (h63 : xs.length + 1 ≤ maxLen) (hbytes : (xs.length + 1) * bytes ≤ 140737488355328) (hbase : base ≤ w.heap.size)
    (h : ∀ v' w', OwnL w' base tid e v' (xs ++ [y]) → w.grownBy w' v.ownBlock → (∀ r, v.ownBlock = some r → base ≤ r) → wpList P ops Q rest (a.put o.dst v') w') : wpList P ops Q (o :: rest) a w :=
  wpList_plain hgd fun _ hK => wp_push s x t ho base tid i z bytes e ht hi hz hsize hby hzs hsz v xs hs hown A c news hx hr y hy h63 hbytes hbase fun v' w' h2 h3 h4 => hK _ _ (h v' w' h2 h3 h4)
end
end Go.Proofs.Ytclbihcggjjgaaa
