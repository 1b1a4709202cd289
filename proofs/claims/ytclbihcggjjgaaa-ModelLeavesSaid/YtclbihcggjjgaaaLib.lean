/- Words for memory: slices that read as lists; kept below. -/
import Derived.WalkKit
import Derived.ProofKit
import Derived.Laws.IdiomStrings
import Derived.Great.Walk
import Derived.Maps.AppendAt
import Derived.Deep.AppendLies
import Derived.RegionTactic
import Derived.OwnWalk
namespace Go.Proofs.Ytclbihcggjjgaaa
open Go.RowKit

theorem Lib.hid {p : Prop} (h : p) : Hid p := h

/-! ### memory -/
theorem setRow_alloc (w : World) (old cs : Array Value) (t : TypeId) (fr : Nat × Nat) : (w.alloc (.cells old t fr)).setRow w.heap.size cs = w.alloc (.cells cs t fr) := by
  show ({ w with heap := (w.heap.push _).modify w.heap.size _ } : World) = { w with heap := w.heap.push _ }
  congr 1
  apply Array.ext
  · simp
  · intro i h1 h2
    simp only [Array.getElem_modify, Array.getElem_push]
    by_cases h : w.heap.size = i
    · subst h
      simp
    · have hi : i < w.heap.size := by simp at h1; omega
      simp [h, hi]

/-- A slice value's parts read as the cells xs (n elements). -/
def Rd (w : World) (A : Option Addr) (xs : List Value) : Prop :=
  xs = [] ∨ ∃ b off, A = some ⟨b, off, none⟩ ∧ ∀ j, j < xs.length → w.cell? ⟨b, off + j, none⟩ = xs[j]?

def byteV (b : UInt8) : Value := .int .u8 (b.toNat : Int)
def Bs (w : World) (A : Option Addr) (n : Nat) (bs : List UInt8) : Prop := bs.length = n ∧ Rd w A (bs.map byteV)

theorem Rd.keep {w w' : World} {A : Option Addr} {xs : List Value} (h : Rd w A xs) (hk : ∀ p : Addr, p.block < w.heap.size → w'.cell? p = w.cell? p) : Rd w' A xs := by
  rcases h with h | ⟨b, off, hA, hc⟩
  · exact .inl h
  · refine .inr ⟨b, off, hA, fun j hj => ?_⟩
    have h1 := hc j hj
    rw [← h1]
    apply hk
    rw [List.getElem?_eq_getElem hj] at h1
    exact block_lt_of_cell h1
theorem Rd.below {w w' : World} {A : Option Addr} {xs : List Value} (h : Rd w A xs) (hb : Below w.heap.size w w') : Rd w' A xs := h.keep fun _ hp => hb.cell hp
theorem Rd.alloc {w : World} {A : Option Addr} {xs : List Value} (h : Rd w A xs) (o : Obj) : Rd (w.alloc o) A xs := h.below ((Below.refl _ _).alloc (Nat.le_refl _) _)
theorem Bs.below {w w' : World} {A : Option Addr} {n : Nat} {bs : List UInt8} (h : Bs w A n bs) (hb : Below w.heap.size w w') : Bs w' A n bs := ⟨h.1, h.2.below hb⟩
theorem Bs.alloc {w : World} {A : Option Addr} {n : Nat} {bs : List UInt8} (h : Bs w A n bs) (o : Obj) : Bs (w.alloc o) A n bs := ⟨h.1, h.2.alloc o⟩
theorem Bs.nil (w : World) (A : Option Addr) : Bs w A 0 [] := ⟨rfl, .inl rfl⟩
/-- the address of a slice with an element -/
theorem Bs.addr {w : World} {A : Option Addr} {n : Nat} {bs : List UInt8} (h : Bs w A n bs) (hn : 0 < n) :
    ∃ b off, A = some ⟨b, off, none⟩ ∧ b < w.heap.size ∧ ∀ j (hj : j < bs.length), w.cell? ⟨b, off + j, none⟩ = some (.int .u8 (bs[j].toNat : Int)) := by
  obtain ⟨hl, h | ⟨b, off, hA, hc⟩⟩ := h
  · have : bs = [] := by simpa using h
    subst this
    simp at hl
    omega
  · have hc' : ∀ j (hj : j < bs.length), w.cell? ⟨b, off + j, none⟩ = some (.int .u8 (bs[j].toNat : Int)) := fun j hj => by
      rw [hc j (by simpa using hj)]
      simp [byteV, hj]
    refine ⟨b, off, hA, ?_, hc'⟩
    exact block_lt_of_cell (hc' 0 (by omega))

/-! ### append onto a row of the call's own -/
theorem add_plain (b off j : Nat) : (⟨b, off, none⟩ : Addr).add j = ⟨b, off + j, none⟩ := by unfold Addr.add; split <;> simp_all

section
variable {P : Program} (w : World)
theorem run_append_nought (base : Nat) (t ty e : TypeId) (i : TypeInfo) (size : Nat) (ht : P.underlying t = some (.slice e)) (hi : P.info? e = some i)
    (v : Value) (n : Nat) (xs : List Value) (hown : w.ownsRow base e size v n xs) (c : Nat) : (Builtin.append_ #[t, t] ty #[v, .slice none 0 c]).run P w = .ok v w := by
  rcases hown.2 with ⟨rfl, rfl⟩ | ⟨g, cap, cur, rfl, _, _, hnc, _⟩
  · simp [Builtin.append_, run_underlying ht, sizeOf, typeInfo, hi, Builtin.lenOf, Builtin.firstCells]
  · simp [Builtin.append_, run_underlying ht, sizeOf, typeInfo, hi, Builtin.lenOf, Builtin.firstCells, hnc, storeCells]

theorem run_append_rd (base : Nat) (t ty e : TypeId) (i : TypeInfo) (z : Value) (size bytes : Nat) (ht : P.underlying t = some (.slice e)) (hi : P.info? e = some i) (hz : i.zero = some z)
    (hsize : i.size = size) (hby : i.bytes = bytes) (hzs : z.cells.size = size) (hsz : 0 < size)
    (v : Value) (n : Nat) (xs : List Value) (hown : w.ownsRow base e size v n xs)
    (A : Option Addr) (m c : Nat) (news : List Value) (hl : news.length = m * size) (hr : Rd w A news) (h1 : ∀ u ∈ news, u.oneCell' = true)
    (h63 : n + m ≤ maxLen) (hbytes : (n + m) * bytes ≤ 140737488355328) (hbase : base ≤ w.heap.size) :
    ∃ v' w', (Builtin.append_ #[t, t] ty #[v, .slice A m c]).run P w = .ok v' w' ∧ w'.ownsRow base e size v' (n + m) (xs ++ news) ∧ w.grownBy w' v.ownBlock ∧
      (v'.ownBlock = v.ownBlock ∨ v'.ownBlock = some w.heap.size) := by
  have none_case : ∀ A : Option Addr, m = 0 → A = none → ∃ v' w', (Builtin.append_ #[t, t] ty #[v, .slice A m c]).run P w = .ok v' w' ∧ w'.ownsRow base e size v' (n + m) (xs ++ news) ∧ w.grownBy w' v.ownBlock ∧
      (v'.ownBlock = v.ownBlock ∨ v'.ownBlock = some w.heap.size) := by
    intro A hm hA
    subst hm hA
    have hn : news = [] := List.eq_nil_of_length_eq_zero (by simpa using hl)
    subst hn
    exact ⟨v, w, run_append_nought w base t ty e i size ht hi v n xs hown c, by simpa using hown, World.grownBy.refl w _, .inl rfl⟩
  rcases A with _ | ad
  · rcases hr with h | ⟨b, off, h, _⟩
    · subst h
      have hm : m = 0 := by
        rcases Nat.eq_zero_or_pos m with h0 | h0
        · exact h0
        · have := Nat.mul_pos h0 hsz
          simp at hl
          omega
      exact none_case none hm rfl
    · cases h
  · have hcells : ∀ j u, news[j]? = some u → w.cell? (ad.add j) = some u := by
      intro j u hu
      rcases hr with h | ⟨b, off, h, hc⟩
      · subst h; simp at hu
      · injection h with h
        subst h
        have hj : j < news.length := (List.getElem?_eq_some_iff.1 hu).1
        rw [add_plain, hc j hj, hu]
    obtain ⟨v', w', hrun, h2, h3, _, h5⟩ := run_append_own_at (P := P) w base t ty e i z size bytes ht hi hz hsize hby hzs hsz v n xs hown ad m c news hl hcells h1 h63 hbytes hbase
    exact ⟨v', w', hrun, h2, h3, h5⟩

theorem wp_append_rd {o : Oper} {a : Act} {K : Act → World → Prop} {Q : Exit → Act → World → Prop} (s x : Operand) (t : TypeId)
    (ho : o.op = .call { callee := .builtin .append, args := #[s, x], argTypes := #[t, t] })
    (base : Nat) (e : TypeId) (i : TypeInfo) (z : Value) (size bytes : Nat) (ht : P.underlying t = some (.slice e)) (hi : P.info? e = some i) (hz : i.zero = some z)
    (hsize : i.size = size) (hby : i.bytes = bytes) (hzs : z.cells.size = size) (hsz : 0 < size)
    (v : Value) (n : Nat) (xs : List Value) (hs : a.eval s = v) (hown : w.ownsRow base e size v n xs)
    (A : Option Addr) (m c : Nat) (news : List Value) (hx : a.eval x = .slice A m c) (hl : news.length = m * size) (hr : Rd w A news) (h1 : ∀ u ∈ news, u.oneCell' = true)
    (h63 : n + m ≤ maxLen) (hbytes : (n + m) * bytes ≤ 140737488355328) (hbase : base ≤ w.heap.size)
    (h : ∀ v' w', w'.ownsRow base e size v' (n + m) (xs ++ news) → w.grownBy w' v.ownBlock → (v'.ownBlock = v.ownBlock ∨ v'.ownBlock = some w.heap.size) → K (a.put o.dst v') w') : o.wp P a w K Q := by
  obtain ⟨v', w', hrun, h2, h3, h4⟩ := run_append_rd (P := P) w base t o.type e i z size bytes ht hi hz hsize hby hzs hsz v n xs hown A m c news hl hr h1 h63 hbytes hbase
  unfold Oper.wp execOp
  simp only [ho, resolve, invoke, builtin, Sem.run_bind, Sem.run_pure, Result.andThen_ok, List.map_toArray, List.map_cons, List.map_nil, hs, hx, hrun]
  exact h v' w' h2 h3 h4

theorem wpList_append_rd {ops : Array Oper} {rest : List Oper} {o : Oper} {a : Act} {Q : Exit → Act → World → Prop} (hgd : o.guard = none) (s x : Operand) (t : TypeId)
    (ho : o.op = .call { callee := .builtin .append, args := #[s, x], argTypes := #[t, t] })
    (base : Nat) (e : TypeId) (i : TypeInfo) (z : Value) (size bytes : Nat) (ht : P.underlying t = some (.slice e)) (hi : P.info? e = some i) (hz : i.zero = some z)
    (hsize : i.size = size) (hby : i.bytes = bytes) (hzs : z.cells.size = size) (hsz : 0 < size)
    (v : Value) (n : Nat) (xs : List Value) (hs : a.eval s = v) (hown : w.ownsRow base e size v n xs)
    (A : Option Addr) (m c : Nat) (news : List Value) (hx : a.eval x = .slice A m c) (hl : news.length = m * size) (hr : Rd w A news) (h1 : ∀ u ∈ news, u.oneCell' = true)
    (h63 : n + m ≤ maxLen) (hbytes : (n + m) * bytes ≤ 140737488355328) (hbase : base ≤ w.heap.size)
    (h : ∀ v' w', w'.ownsRow base e size v' (n + m) (xs ++ news) → w.grownBy w' v.ownBlock → (v'.ownBlock = v.ownBlock ∨ v'.ownBlock = some w.heap.size) → wpList P ops Q rest (a.put o.dst v') w') : wpList P ops Q (o :: rest) a w :=
  wpList_plain hgd fun _ hK => wp_append_rd w s x t ho base e i z size bytes ht hi hz hsize hby hzs hsz v n xs hs hown A m c news hx hl hr h1 h63 hbytes hbase fun v' w' h2 h3 h4 => hK _ _ (h v' w' h2 h3 h4)
end

/-- what is owned reads -/
theorem own_rd {w : World} {base : Nat} {e : TypeId} {size n : Nat} {v : Value} {xs : List Value} (h : w.ownsRow base e size v n xs) : ∃ A c, v = .slice A n c ∧ n ≤ c ∧ Rd w A xs := by
  rcases h.2 with ⟨rfl, rfl⟩ | ⟨g, cap, cur, rfl, _, hg, hnc, _, _, htake⟩
  · have : xs = [] := List.eq_nil_of_length_eq_zero (by simpa using h.1)
    subst this
    exact ⟨none, 0, rfl, Nat.le_refl _, .inl rfl⟩
  · refine ⟨_, _, rfl, hnc, .inr ⟨g, 0, rfl, fun j hj => ?_⟩⟩
    rw [Nat.zero_add, cell_of_row w g j cur e (0, 0) hg, ← htake]
    rw [List.getElem?_take, if_pos (by rw [← h.1]; exact hj)]
    simp
theorem Bs.of_own {w : World} {base : Nat} {e : TypeId} {n : Nat} {v : Value} {bs : List UInt8} (h : w.ownsRow base e 1 v n (bs.map byteV)) : ∃ A c, v = .slice A n c ∧ n ≤ c ∧ Bs w A n bs := by
  obtain ⟨A, c, rfl, hnc, hr⟩ := own_rd h
  exact ⟨A, c, rfl, hnc, by have := h.1; simpa using this, hr⟩
theorem Bs.of_ownS {w : World} {base : Nat} {e : TypeId} {n g c : Nat} {bs : List UInt8} (h : w.ownsRow base e 1 (.slice (some ⟨g, 0, none⟩) n c) n (bs.map byteV)) : Bs w (some ⟨g, 0, none⟩) n bs := by
  obtain ⟨A, c', hv, _, hb⟩ := Bs.of_own h
  simp only [Value.slice.injEq] at hv
  rw [hv.1]
  exact hb
theorem byteV_one (bs : List UInt8) : ∀ u ∈ bs.map byteV, u.oneCell' = true := by
  intro u hu
  simp only [List.mem_map] at hu
  obtain ⟨b, _, rfl⟩ := hu
  rfl

/-- a new block of bytes -/
theorem Bs.new (w : World) (C : Array Value) (t : TypeId) (fr : Nat × Nat) (n : Nat) (bs : List UInt8) (hn : bs.length = n) (hC : C.toList.take n = bs.map byteV) :
    Bs (w.alloc (.cells C t fr)) (some ⟨w.heap.size, 0, none⟩) n bs := by
  refine ⟨hn, .inr ⟨w.heap.size, 0, rfl, fun j hj => ?_⟩⟩
  rw [Nat.zero_add, World.cell?_alloc_mark, ← hC, List.getElem?_take, if_pos (by rw [← hn]; simpa using hj)]
  simp

/-- 'string(b)' -/
theorem run_string_bs {P : Program} {w : World} {A : Option Addr} {n : Nat} {bs : List UInt8} (c : Nat) (src dst e : TypeId) (hs : P.underlying src = some (.slice e)) (he : P.underlying e = some (.int .u8)) (hd : P.underlying dst = some .string)
    (hb : Bs w A n bs) : (convert src dst (.slice A n c)).run P w = .ok (.string ⟨bs.toArray⟩) w := by
  obtain ⟨hl, hr⟩ := hb
  subst hl
  by_cases h0 : bs = []
  · subst h0
    rw [run_convert_bytes_string w src dst e A _ c hs he hd]
    cases A with
    | none => rfl
    | some a => rfl
  · rcases hr with h | ⟨b, off, rfl, hc⟩
    · simp at h
      exact absurd h h0
    · exact run_convert_bytes_back w src dst e _ c bs hs he hd (fun j hj => by
        rw [add_plain, hc j (by simpa using hj)]
        simp [byteV, hj])

/-! ### one step behind another: nothing that was there has turned -/
theorem Ext.trans {a b c : World} (h : Below a.heap.size a b) (k : Below b.heap.size b c) : Below a.heap.size a c := h.trans (k.mono h.size)
theorem Ext.alloc {a b : World} (h : Below a.heap.size a b) (o : Obj) : Below a.heap.size a (b.alloc o) := Below.alloc h h.size o
theorem Ext.drew {a b : World} (h : Below a.heap.size a b) : Below a.heap.size a b.drew := Below.drew h
theorem Ext.grown {a b c : World} {row : Option Nat} (h : Below a.heap.size a b) (hg : b.grownBy c row) (hr : ∀ k, row = some k → a.heap.size ≤ k) : Below a.heap.size a c := Below.grown h hg h.size hr

/-! ### a block of the call's own, behind a call -/
theorem box_next {W W' : World} {g : Nat} {cs : List Value} (h : ∀ o, W.cell? ⟨g, o, none⟩ = cs[o]?) (hlt : g < W.heap.size) (k : Below W.heap.size W W') : ∀ o, W'.cell? ⟨g, o, none⟩ = cs[o]? :=
  fun o => (k.cell (p := ⟨g, o, none⟩) hlt).trans (h o)
theorem free_next {W W' : World} {g : Nat} (h : ∀ o, W.frozen? ⟨g, o, none⟩ = false) (hlt : g < W.heap.size) (k : Below W.heap.size W W') : ∀ o, W'.frozen? ⟨g, o, none⟩ = false :=
  fun o => (k.frozen (p := ⟨g, o, none⟩) hlt).trans (h o)
theorem lt_next {W W' : World} {g : Nat} (hlt : g < W.heap.size) (k : Below W.heap.size W W') : g < W'.heap.size := Nat.lt_of_lt_of_le hlt k.size
theorem box_new (w : World) (cs : Array Value) (t : TypeId) : ∀ o, (w.alloc (.cells cs t)).cell? ⟨w.heap.size, o, none⟩ = cs.toList[o]? := fun o => by
  rw [World.cell?_alloc_mark]; simp
theorem free_new (w : World) (cs : Array Value) (t : TypeId) : ∀ o, (w.alloc (.cells cs t)).frozen? ⟨w.heap.size, o, none⟩ = false := fun o => by
  rw [World.frozen?_alloc_mark]; simp
theorem lt_new (w : World) (o : Obj) : w.heap.size < (w.alloc o).heap.size := by simp
end Go.Proofs.Ytclbihcggjjgaaa
