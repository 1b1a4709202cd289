/- What this claim needs of my texts, merged (part 1). -/
import Derived.WalkKit
import Derived.ProofKit
import Derived.Laws.IdiomStrings
import Derived.Great.Walk
import Derived.Maps.AppendAt
import Derived.Deep.AppendLies
import Derived.RegionTactic
import Derived.OwnWalk
import Derived.OpenShut
import Derived.SizedLaws
import Derived.Deep.RegionHeld3
import Derived.IntWalk
import Derived.Laws.ResultCell
import Derived.Laws.Rows
import Derived.Laws.CopyOwn
import Derived.Great.BuildSlice
import Derived.BigQuiet
import Derived.Test.YtclbihcggjjgaaaRows
import Derived.Deep.QuietTactic
import Derived.Deep.DeepCutAuto
import Derived.BigRegion
import Derived.Deep.RegionWith
import Derived.Maps.OwnOps
import Derived.Maps.Views
import Derived.Laws.EntriesVeiled
import Derived.OrdersIn
import Derived.LoopIn
import Derived.OrdersHeld
import Derived.Shelf.RegionOpen
import Derived.RangeFuncCalls
import Derived.RangeFuncBox
import Derived.RangeFuncNested
import Derived.RangeFuncBound
import Derived.RangeFuncLeaves
/- Words for memory: slices that read as lists; kept below. -/
namespace Go.Proofs.Ytclbihcggjjgaaa
open Go.RowKit

theorem Lib.hid {p : Prop} (h : p) : Hid p := h

/-! ### memory -/
/-- A slice value's parts read as the cells xs (n elements). -/
def Rd (w : World) (A : Option Addr) (xs : List Value) : Prop :=
  xs = [] ∨ ∃ b off, A = some ⟨b, off, none⟩ ∧ ∀ j, j < xs.length → w.cell? ⟨b, off + j, none⟩ = xs[j]?

def byteV (b : UInt8) : Value := .int .u8 (b.toNat : Int)
def Bs (w : World) (A : Option Addr) (n : Nat) (bs : List UInt8) : Prop := bs.length = n ∧ Rd w A (bs.map byteV)

theorem Rd.keep {w w' : World} {A : Option Addr} {xs : List Value} (h : Rd w A xs) (hk : ∀ p : Addr, p.block < w.heap.size → w'.cell? p = w.cell? p) : Rd w' A xs := by
  rcases h with h | ⟨b, off, hA, hc⟩
  · exact .inl h
  · refine .inr ⟨b, off, hA, fun j hj => ?_⟩
    have h1 := hc j hj
    rw [← h1]
    apply hk
    rw [List.getElem?_eq_getElem hj] at h1
    exact block_lt_of_cell h1
theorem Rd.below {w w' : World} {A : Option Addr} {xs : List Value} (h : Rd w A xs) (hb : Below w.heap.size w w') : Rd w' A xs := h.keep fun _ hp => hb.cell hp
theorem Rd.alloc {w : World} {A : Option Addr} {xs : List Value} (h : Rd w A xs) (o : Obj) : Rd (w.alloc o) A xs := h.below ((Below.refl _ _).alloc (Nat.le_refl _) _)
theorem Bs.below {w w' : World} {A : Option Addr} {n : Nat} {bs : List UInt8} (h : Bs w A n bs) (hb : Below w.heap.size w w') : Bs w' A n bs := ⟨h.1, h.2.below hb⟩
theorem Bs.alloc {w : World} {A : Option Addr} {n : Nat} {bs : List UInt8} (h : Bs w A n bs) (o : Obj) : Bs (w.alloc o) A n bs := ⟨h.1, h.2.alloc o⟩
theorem Bs.nil (w : World) (A : Option Addr) : Bs w A 0 [] := ⟨rfl, .inl rfl⟩
/-! ### append onto a row of the call's own -/
theorem add_plain (b off j : Nat) : (⟨b, off, none⟩ : Addr).add j = ⟨b, off + j, none⟩ := by unfold Addr.add; split <;> simp_all

section
variable {P : Program} (w : World)
theorem run_append_nought (base : Nat) (t ty e : TypeId) (i : TypeInfo) (size : Nat) (ht : P.underlying t = some (.slice e)) (hi : P.info? e = some i)
    (v : Value) (n : Nat) (xs : List Value) (hown : w.ownsRow base e size v n xs) (c : Nat) : (Builtin.append_ #[t, t] ty #[v, .slice none 0 c]).run P w = .ok v w := by
  rcases hown.2 with ⟨rfl, rfl⟩ | ⟨g, cap, cur, rfl, _, _, hnc, _⟩
  · simp [Builtin.append_, run_underlying ht, sizeOf, typeInfo, hi, Builtin.lenOf, Builtin.firstCells]
  · simp [Builtin.append_, run_underlying ht, sizeOf, typeInfo, hi, Builtin.lenOf, Builtin.firstCells, hnc, storeCells]

theorem run_append_rd (base : Nat) (t ty e : TypeId) (i : TypeInfo) (z : Value) (size bytes : Nat) (ht : P.underlying t = some (.slice e)) (hi : P.info? e = some i) (hz : i.zero = some z)
    (hsize : i.size = size) (hby : i.bytes = bytes) (hzs : z.cells.size = size) (hsz : 0 < size)
    (v : Value) (n : Nat) (xs : List Value) (hown : w.ownsRow base e size v n xs)
    (A : Option Addr) (m c : Nat) (news : List Value) (hl : news.length = m * size) (hr : Rd w A news) (h1 : ∀ u ∈ news, u.oneCell' = true)
    (h63 : n + m ≤ maxLen) (hbytes : (n + m) * bytes ≤ 140737488355328) (hbase : base ≤ w.heap.size) :
    ∃ v' w', (Builtin.append_ #[t, t] ty #[v, .slice A m c]).run P w = .ok v' w' ∧ w'.ownsRow base e size v' (n + m) (xs ++ news) ∧ w.grownBy w' v.ownBlock ∧
      (v'.ownBlock = v.ownBlock ∨ v'.ownBlock = some w.heap.size) := by
  have none_case : ∀ A : Option Addr, m = 0 → A = none → ∃ v' w', (Builtin.append_ #[t, t] ty #[v, .slice A m c]).run P w = .ok v' w' ∧ w'.ownsRow base e size v' (n + m) (xs ++ news) ∧ w.grownBy w' v.ownBlock ∧
      (v'.ownBlock = v.ownBlock ∨ v'.ownBlock = some w.heap.size) := by
    intro A hm hA
    subst hm hA
    have hn : news = [] := List.eq_nil_of_length_eq_zero (by simpa using hl)
    subst hn
    exact ⟨v, w, run_append_nought w base t ty e i size ht hi v n xs hown c, by simpa using hown, World.grownBy.refl w _, .inl rfl⟩
  rcases A with _ | ad
  · rcases hr with h | ⟨b, off, h, _⟩
    · subst h
      have hm : m = 0 := by
        rcases Nat.eq_zero_or_pos m with h0 | h0
        · exact h0
        · have := Nat.mul_pos h0 hsz
          simp at hl
          omega
      exact none_case none hm rfl
    · cases h
  · have hcells : ∀ j u, news[j]? = some u → w.cell? (ad.add j) = some u := by
      intro j u hu
      rcases hr with h | ⟨b, off, h, hc⟩
      · subst h; simp at hu
      · injection h with h
        subst h
        have hj : j < news.length := (List.getElem?_eq_some_iff.1 hu).1
        rw [add_plain, hc j hj, hu]
    obtain ⟨v', w', hrun, h2, h3, _, h5⟩ := run_append_own_at (P := P) w base t ty e i z size bytes ht hi hz hsize hby hzs hsz v n xs hown ad m c news hl hcells h1 h63 hbytes hbase
    exact ⟨v', w', hrun, h2, h3, h5⟩

theorem wp_append_rd {o : Oper} {a : Act} {K : Act → World → Prop} {Q : Exit → Act → World → Prop} (s x : Operand) (t : TypeId)
    (ho : o.op = .call { callee := .builtin .append, args := #[s, x], argTypes := #[t, t] })
    (base : Nat) (e : TypeId) (i : TypeInfo) (z : Value) (size bytes : Nat) (ht : P.underlying t = some (.slice e)) (hi : P.info? e = some i) (hz : i.zero = some z)
    (hsize : i.size = size) (hby : i.bytes = bytes) (hzs : z.cells.size = size) (hsz : 0 < size)
    (v : Value) (n : Nat) (xs : List Value) (hs : a.eval s = v) (hown : w.ownsRow base e size v n xs)
    (A : Option Addr) (m c : Nat) (news : List Value) (hx : a.eval x = .slice A m c) (hl : news.length = m * size) (hr : Rd w A news) (h1 : ∀ u ∈ news, u.oneCell' = true)
    (h63 : n + m ≤ maxLen) (hbytes : (n + m) * bytes ≤ 140737488355328) (hbase : base ≤ w.heap.size)
    (h : ∀ v' w', w'.ownsRow base e size v' (n + m) (xs ++ news) → w.grownBy w' v.ownBlock → (v'.ownBlock = v.ownBlock ∨ v'.ownBlock = some w.heap.size) → K (a.put o.dst v') w') : o.wp P a w K Q := by
  obtain ⟨v', w', hrun, h2, h3, h4⟩ := run_append_rd (P := P) w base t o.type e i z size bytes ht hi hz hsize hby hzs hsz v n xs hown A m c news hl hr h1 h63 hbytes hbase
  unfold Oper.wp execOp
  simp only [ho, resolve, invoke, builtin, Sem.run_bind, Sem.run_pure, Result.andThen_ok, List.map_toArray, List.map_cons, List.map_nil, hs, hx, hrun]
  exact h v' w' h2 h3 h4

theorem wpList_append_rd {ops : Array Oper} {rest : List Oper} {o : Oper} {a : Act} {Q : Exit → Act → World → Prop} (hgd : o.guard = none) (s x : Operand) (t : TypeId)
    (ho : o.op = .call { callee := .builtin .append, args := #[s, x], argTypes := #[t, t] })
    (base : Nat) (e : TypeId) (i : TypeInfo) (z : Value) (size bytes : Nat) (ht : P.underlying t = some (.slice e)) (hi : P.info? e = some i) (hz : i.zero = some z)
    (hsize : i.size = size) (hby : i.bytes = bytes) (hzs : z.cells.size = size) (hsz : 0 < size)
    (v : Value) (n : Nat) (xs : List Value) (hs : a.eval s = v) (hown : w.ownsRow base e size v n xs)
    (A : Option Addr) (m c : Nat) (news : List Value) (hx : a.eval x = .slice A m c) (hl : news.length = m * size) (hr : Rd w A news) (h1 : ∀ u ∈ news, u.oneCell' = true)
    (h63 : n + m ≤ maxLen) (hbytes : (n + m) * bytes ≤ 140737488355328) (hbase : base ≤ w.heap.size)
    (h : ∀ v' w', w'.ownsRow base e size v' (n + m) (xs ++ news) → w.grownBy w' v.ownBlock → (v'.ownBlock = v.ownBlock ∨ v'.ownBlock = some w.heap.size) → wpList P ops Q rest (a.put o.dst v') w') : wpList P ops Q (o :: rest) a w :=
  wpList_plain hgd fun _ hK => wp_append_rd w s x t ho base e i z size bytes ht hi hz hsize hby hzs hsz v n xs hs hown A m c news hx hl hr h1 h63 hbytes hbase fun v' w' h2 h3 h4 => hK _ _ (h v' w' h2 h3 h4)
end

/-- what is owned reads -/
theorem own_rd {w : World} {base : Nat} {e : TypeId} {size n : Nat} {v : Value} {xs : List Value} (h : w.ownsRow base e size v n xs) : ∃ A c, v = .slice A n c ∧ n ≤ c ∧ Rd w A xs := by
  rcases h.2 with ⟨rfl, rfl⟩ | ⟨g, cap, cur, rfl, _, hg, hnc, _, _, htake⟩
  · have : xs = [] := List.eq_nil_of_length_eq_zero (by simpa using h.1)
    subst this
    exact ⟨none, 0, rfl, Nat.le_refl _, .inl rfl⟩
  · refine ⟨_, _, rfl, hnc, .inr ⟨g, 0, rfl, fun j hj => ?_⟩⟩
    rw [Nat.zero_add, cell_of_row w g j cur e (0, 0) hg, ← htake]
    rw [List.getElem?_take, if_pos (by rw [← h.1]; exact hj)]
    simp
theorem Bs.of_own {w : World} {base : Nat} {e : TypeId} {n : Nat} {v : Value} {bs : List UInt8} (h : w.ownsRow base e 1 v n (bs.map byteV)) : ∃ A c, v = .slice A n c ∧ n ≤ c ∧ Bs w A n bs := by
  obtain ⟨A, c, rfl, hnc, hr⟩ := own_rd h
  exact ⟨A, c, rfl, hnc, by have := h.1; simpa using this, hr⟩
theorem Bs.of_ownS {w : World} {base : Nat} {e : TypeId} {n g c : Nat} {bs : List UInt8} (h : w.ownsRow base e 1 (.slice (some ⟨g, 0, none⟩) n c) n (bs.map byteV)) : Bs w (some ⟨g, 0, none⟩) n bs := by
  obtain ⟨A, c', hv, _, hb⟩ := Bs.of_own h
  simp only [Value.slice.injEq] at hv
  rw [hv.1]
  exact hb
theorem byteV_one (bs : List UInt8) : ∀ u ∈ bs.map byteV, u.oneCell' = true := by
  intro u hu
  simp only [List.mem_map] at hu
  obtain ⟨b, _, rfl⟩ := hu
  rfl

/-- a new block of bytes -/
theorem Bs.new (w : World) (C : Array Value) (t : TypeId) (fr : Nat × Nat) (n : Nat) (bs : List UInt8) (hn : bs.length = n) (hC : C.toList.take n = bs.map byteV) :
    Bs (w.alloc (.cells C t fr)) (some ⟨w.heap.size, 0, none⟩) n bs := by
  refine ⟨hn, .inr ⟨w.heap.size, 0, rfl, fun j hj => ?_⟩⟩
  rw [Nat.zero_add, World.cell?_alloc_mark, ← hC, List.getElem?_take, if_pos (by rw [← hn]; simpa using hj)]
  simp

/-- 'string(b)' -/
theorem run_string_bs {P : Program} {w : World} {A : Option Addr} {n : Nat} {bs : List UInt8} (c : Nat) (src dst e : TypeId) (hs : P.underlying src = some (.slice e)) (he : P.underlying e = some (.int .u8)) (hd : P.underlying dst = some .string)
    (hb : Bs w A n bs) : (convert src dst (.slice A n c)).run P w = .ok (.string ⟨bs.toArray⟩) w := by
  obtain ⟨hl, hr⟩ := hb
  subst hl
  by_cases h0 : bs = []
  · subst h0
    rw [run_convert_bytes_string w src dst e A _ c hs he hd]
    cases A with
    | none => rfl
    | some a => rfl
  · rcases hr with h | ⟨b, off, rfl, hc⟩
    · simp at h
      exact absurd h h0
    · exact run_convert_bytes_back w src dst e _ c bs hs he hd (fun j hj => by
        rw [add_plain, hc j (by simpa using hj)]
        simp [byteV, hj])

/-! ### one step behind another: nothing that was there has turned -/
theorem Ext.trans {a b c : World} (h : Below a.heap.size a b) (k : Below b.heap.size b c) : Below a.heap.size a c := h.trans (k.mono h.size)
theorem Ext.alloc {a b : World} (h : Below a.heap.size a b) (o : Obj) : Below a.heap.size a (b.alloc o) := Below.alloc h h.size o
theorem Ext.drew {a b : World} (h : Below a.heap.size a b) : Below a.heap.size a b.drew := Below.drew h
theorem Ext.grown {a b c : World} {row : Option Nat} (h : Below a.heap.size a b) (hg : b.grownBy c row) (hr : ∀ k, row = some k → a.heap.size ≤ k) : Below a.heap.size a c := Below.grown h hg h.size hr

/-! ### a block of the call's own, behind a call -/
theorem lt_new (w : World) (o : Obj) : w.heap.size < (w.alloc o).heap.size := by simp
end Go.Proofs.Ytclbihcggjjgaaa
/- Data as Lean has them: what values and memory read as, whatever the type; kept below; and what comes in reads so. -/
namespace Go.Proofs.Ytclbihcggjjgaaa
open Go.RowKit Go.ChangeShapes Go.WideShapes

inductive Ty where
  | byte
  | u32
  | int
  | bool
  | sl (e : Ty)
  | unit
  | prod (a b : Ty)
  | st (p : Ty)
  | arr (n : Nat) (e : Ty)

namespace Ty
/-- how many cells -/
def size : Ty → Nat
  | byte | u32 | int | bool | sl _ => 1
  | unit => 0
  | prod a b => a.size + b.size
  | st p => p.size
  | arr n e => n * e.size
def T : Ty → Type
  | byte => UInt8
  | u32 => Nat
  | int => Int
  | bool => Bool
  | sl e => List e.T
  | unit => Unit
  | prod a b => a.T × b.T
  | st p => p.T
  | arr _ e => List e.T
end Ty
abbrev IsInt (n : Int) : Prop := -9223372036854775808 ≤ n ∧ n ≤ 9223372036854775807

/-- What cells read as. -/
def Reads (w : World) : (t : Ty) → t.T → List Value → Prop
  | .byte, x, cs => cs = [byteV x]
  | .u32, n, cs => cs = [.int .u32 ((show Nat from n : Nat) : Int)] ∧ (show Nat from n) < 2 ^ 32
  | .int, n, cs => cs = [.int .i64 (show Int from n)] ∧ IsInt n
  | .bool, b, cs => cs = [.bool b]
  | .sl e, xs, cs => ∃ A c, cs = [.slice A (show List e.T from xs).length c] ∧ (show List e.T from xs).length ≤ c ∧ c ≤ maxLen ∧
      ((show List e.T from xs) = [] ∨ ∃ b off, A = some ⟨b, off, none⟩ ∧ ∀ i (hi : i < (show List e.T from xs).length), ∃ es : List Value,
        (∀ j, j < e.size → w.cell? ⟨b, off + i * e.size + j, none⟩ = es[j]?) ∧ Reads w e ((show List e.T from xs)[i]) es)
  | .unit, _, cs => cs = []
  | .prod a b, x, cs => ∃ c1 c2, cs = c1 ++ c2 ∧ Reads w a (show a.T × b.T from x).1 c1 ∧ Reads w b (show a.T × b.T from x).2 c2
  | .st p, x, cs => Reads w p x cs
  | .arr n e, xs, cs => (show List e.T from xs).length = n ∧ cs.length = n * e.size ∧ ∀ i (hi : i < (show List e.T from xs).length), Reads w e ((show List e.T from xs)[i]) ((cs.drop (i * e.size)).take e.size)

section
variable {w : World} {cs : List Value}
end

theorem Reads.len {w : World} : {t : Ty} → {x : t.T} → {cs : List Value} → Reads w t x cs → cs.length = t.size
  | .byte, _, _, h => by unfold Reads at h; subst h; rfl
  | .u32, _, _, h => by unfold Reads at h; obtain ⟨rfl, _⟩ := h; rfl
  | .int, _, _, h => by unfold Reads at h; obtain ⟨rfl, _⟩ := h; rfl
  | .bool, _, _, h => by unfold Reads at h; subst h; rfl
  | .sl _, _, _, h => by unfold Reads at h; obtain ⟨_, _, rfl, _⟩ := h; rfl
  | .unit, _, _, h => by unfold Reads at h; subst h; rfl
  | .prod a b, _, _, h => by
    unfold Reads at h
    obtain ⟨c1, c2, rfl, h1, h2⟩ := h
    rw [List.length_append, h1.len, h2.len]
    rfl
  | .st p, _, _, h => by unfold Reads at h; exact h.len (t := p)
  | .arr n e, _, _, h => by unfold Reads at h; exact h.2.1

/-- What stood there stands there yet. -/
theorem Reads.keep {w w' : World} (hk : ∀ (p : Addr) (v : Value), w.cell? p = some v → w'.cell? p = some v) : {t : Ty} → {x : t.T} → {cs : List Value} → Reads w t x cs → Reads w' t x cs
  | .byte, _, _, h => by unfold Reads at h ⊢; exact h
  | .u32, _, _, h => by unfold Reads at h ⊢; exact h
  | .int, _, _, h => by unfold Reads at h ⊢; exact h
  | .bool, _, _, h => by unfold Reads at h ⊢; exact h
  | .sl e, xs, _, h => by
    unfold Reads at h ⊢
    obtain ⟨A, c, hcs, hn, hm, h⟩ := h
    refine ⟨A, c, hcs, hn, hm, ?_⟩
    rcases h with h | ⟨b, off, hA, h⟩
    · exact .inl h
    · refine .inr ⟨b, off, hA, fun i hi => ?_⟩
      obtain ⟨es, hc, hr⟩ := h i hi
      have hl := hr.len
      refine ⟨es, fun j hj => ?_, hr.keep hk⟩
      have := hc j hj
      rw [List.getElem?_eq_getElem (by omega)] at this ⊢
      exact hk _ _ this
  | .unit, _, _, h => by unfold Reads at h ⊢; exact h
  | .prod a b, _, _, h => by
    unfold Reads at h ⊢
    obtain ⟨c1, c2, rfl, h1, h2⟩ := h
    exact ⟨c1, c2, rfl, h1.keep hk, h2.keep hk⟩
  | .st p, _, _, h => by unfold Reads at h ⊢; exact h.keep (t := p) hk
  | .arr n e, _, _, h => by
    unfold Reads at h ⊢
    exact ⟨h.1, h.2.1, fun i hi => (h.2.2 i hi).keep hk⟩
theorem Reads.below {w w' : World} {t : Ty} {x : t.T} {cs : List Value} (h : Reads w t x cs) (hb : Below w.heap.size w w') : Reads w' t x cs :=
  h.keep fun p v hv => by rw [hb.cell (block_lt_of_cell hv)]; exact hv

/-! ### what comes in -/
namespace Ty
def isField : Ty → Bool
  | unit | prod _ _ => true
  | _ => false
/-- a type of the program's is this one -/
def fits (P : Program) : Ty → TypeId → List Field → Nat → Bool
  | byte, t, _, _ => match P.underlying t with | some (.int .u8) => true | _ => false
  | u32, t, _, _ => match P.underlying t with | some (.int .u32) => true | _ => false
  | int, t, _, _ => match P.underlying t with | some (.int .i64) => true | _ => false
  | bool, t, _, _ => match P.underlying t with | some .bool => true | _ => false
  | sl e, t, _, _ => match P.underlying t with | some (.slice e') => e.fits P e' [] 0 && (P.cellsOf e' == e.size) && !e.isField && e.size != 0 | _ => false
  | unit, _, fs, _ => fs.isEmpty
  | prod a b, t, fs, off => match fs with | f :: fs => (f.offset == off) && (P.cellsOf f.type == a.size) && a.fits P f.type [] 0 && !a.isField && b.isField && b.fits P t fs (off + a.size) | [] => false
  | st p, t, _, _ => match P.underlying t with | some (.struct fs) => p.fits P t fs.toList 0 && (P.cellsOf t == p.size) && p.isField | _ => false
  | arr n e, t, _, _ => match P.underlying t with | some (.array m e') => (m == n) && e.fits P e' [] 0 && (P.cellsOf e' == e.size) && (P.cellsOf t == n * e.size) && !e.isField | _ => false
end Ty

theorem choose_list {α : Type} {R : Nat → α → Prop} : (n : Nat) → (∀ i, i < n → ∃ x, R i x) → ∃ l : List α, l.length = n ∧ ∀ i (hi : i < l.length), R i l[i]
  | 0, _ => ⟨[], rfl, fun i hi => absurd hi (by simp)⟩
  | n + 1, h => by
    obtain ⟨l, hl, hr⟩ := choose_list n (fun i hi => h i (by omega))
    obtain ⟨x, hx⟩ := h n (by omega)
    refine ⟨l ++ [x], by simp [hl], fun i hi => ?_⟩
    rw [List.getElem_append]
    split
    · exact hr i _
    · have : i = n := by simp at hi; omega
      subst this
      simpa using hx

section
variable {H : Type} {enc : TypeId × Value → H} {P : Program} {w : World} {base : Nat} {spare : Nat → Bool} {held : Bool}

end

/-! ### the shapes of what comes in -/
section
variable {w : World} {v : Value}
end
end Go.Proofs.Ytclbihcggjjgaaa
/- Data with depth: what memory reads as, where each block that is met is known, and no slice has more bytes than a machine has; kept; and what comes in reads so. -/
namespace Go.Proofs.Ytclbihcggjjgaaa
open Go.RowKit Go.ChangeShapes Go.WideShapes

namespace Ty
/-- on what bounds one stands -/
def align : Ty → Nat
  | byte | bool | unit => 1
  | u32 => 4
  | int | sl _ => 8
  | prod a _ => a.align
  | st p => p.align
  | arr _ e => e.align
def up (n a : Nat) : Nat := (n + a - 1) / a * a
/-- how many bytes one has (the program's own sizes are no less: 'heavy') -/
def bytes : Ty → Nat
  | byte | bool => 1
  | u32 => 4
  | int => 8
  | sl _ => 24
  | unit => 0
  | prod a b => up a.bytes b.align + b.bytes
  | st p => p.bytes
  | arr n e => n * e.bytes
end Ty

/-- What cells read as; each block that is met is one of S. -/
def RdIn (w : World) (S : Nat → Prop) : (t : Ty) → t.T → List Value → Prop
  | .byte, x, cs => cs = [byteV x]
  | .u32, n, cs => cs = [.int .u32 ((show Nat from n : Nat) : Int)] ∧ (show Nat from n) < 2 ^ 32
  | .int, n, cs => cs = [.int .i64 (show Int from n)] ∧ IsInt n
  | .bool, b, cs => cs = [.bool b]
  | .sl e, xs, cs => ∃ A c, cs = [.slice A (show List e.T from xs).length c] ∧ (show List e.T from xs).length ≤ c ∧ c ≤ maxLen ∧ (show List e.T from xs).length * e.bytes ≤ 140737488355328 ∧
      ((show List e.T from xs) = [] ∨ ∃ b off, A = some ⟨b, off, none⟩ ∧ S b ∧ ∀ i (hi : i < (show List e.T from xs).length), ∃ es : List Value,
        (∀ j, j < e.size → w.cell? ⟨b, off + i * e.size + j, none⟩ = es[j]?) ∧ RdIn w S e ((show List e.T from xs)[i]) es)
  | .unit, _, cs => cs = []
  | .prod a b, x, cs => ∃ c1 c2, cs = c1 ++ c2 ∧ RdIn w S a (show a.T × b.T from x).1 c1 ∧ RdIn w S b (show a.T × b.T from x).2 c2
  | .st p, x, cs => RdIn w S p x cs
  | .arr n e, xs, cs => (show List e.T from xs).length = n ∧ cs.length = n * e.size ∧ ∀ i (hi : i < (show List e.T from xs).length), RdIn w S e ((show List e.T from xs)[i]) ((cs.drop (i * e.size)).take e.size)

section
variable {w : World} {S : Nat → Prop} {cs : List Value}
theorem rdin_byte {x : UInt8} : RdIn w S .byte x cs ↔ cs = [byteV x] := Iff.rfl
theorem rdin_u32 {n : Nat} : RdIn w S .u32 n cs ↔ cs = [.int .u32 (n : Int)] ∧ n < 2 ^ 32 := Iff.rfl
theorem rdin_int {n : Int} : RdIn w S .int n cs ↔ cs = [.int .i64 n] ∧ IsInt n := Iff.rfl
theorem rdin_bool {b : Bool} : RdIn w S .bool b cs ↔ cs = [.bool b] := Iff.rfl
theorem rdin_sl {e : Ty} {xs : List e.T} : RdIn w S (.sl e) xs cs ↔ ∃ A c, cs = [.slice A xs.length c] ∧ xs.length ≤ c ∧ c ≤ maxLen ∧ xs.length * e.bytes ≤ 140737488355328 ∧
      (xs = [] ∨ ∃ b off, A = some ⟨b, off, none⟩ ∧ S b ∧ ∀ i (hi : i < xs.length), ∃ es : List Value,
        (∀ j, j < e.size → w.cell? ⟨b, off + i * e.size + j, none⟩ = es[j]?) ∧ RdIn w S e xs[i] es) := Iff.rfl
theorem rdin_unit {x : Unit} : RdIn w S .unit x cs ↔ cs = [] := Iff.rfl
theorem rdin_prod {a b : Ty} {x : a.T} {y : b.T} : RdIn w S (.prod a b) (x, y) cs ↔ ∃ c1 c2, cs = c1 ++ c2 ∧ RdIn w S a x c1 ∧ RdIn w S b y c2 := Iff.rfl
theorem rdin_st {p : Ty} {x : p.T} : RdIn w S (.st p) x cs ↔ RdIn w S p x cs := Iff.rfl
theorem rdin_arr {n : Nat} {e : Ty} {xs : List e.T} : RdIn w S (.arr n e) xs cs ↔ xs.length = n ∧ cs.length = n * e.size ∧ ∀ i (hi : i < xs.length), RdIn w S e xs[i] ((cs.drop (i * e.size)).take e.size) := Iff.rfl
end

theorem RdIn.len {w : World} {S : Nat → Prop} : {t : Ty} → {x : t.T} → {cs : List Value} → RdIn w S t x cs → cs.length = t.size
  | .byte, _, _, h => by unfold RdIn at h; subst h; rfl
  | .u32, _, _, h => by unfold RdIn at h; obtain ⟨rfl, _⟩ := h; rfl
  | .int, _, _, h => by unfold RdIn at h; obtain ⟨rfl, _⟩ := h; rfl
  | .bool, _, _, h => by unfold RdIn at h; subst h; rfl
  | .sl _, _, _, h => by unfold RdIn at h; obtain ⟨_, _, rfl, _⟩ := h; rfl
  | .unit, _, _, h => by unfold RdIn at h; subst h; rfl
  | .prod a b, _, _, h => by
    unfold RdIn at h
    obtain ⟨c1, c2, rfl, h1, h2⟩ := h
    rw [List.length_append, h1.len, h2.len]
    rfl
  | .st p, _, _, h => by unfold RdIn at h; exact h.len (t := p)
  | .arr n e, _, _, h => by unfold RdIn at h; exact h.2.1

/-- What stood there stands there yet; the blocks may be told anew. -/
theorem RdIn.keep {w w' : World} {S S' : Nat → Prop} (hk : ∀ (p : Addr) (v : Value), S p.block → w.cell? p = some v → w'.cell? p = some v ∧ S' p.block) (hS : ∀ b, S b → S' b) : {t : Ty} → {x : t.T} → {cs : List Value} → RdIn w S t x cs → RdIn w' S' t x cs
  | .byte, _, _, h => by unfold RdIn at h ⊢; exact h
  | .u32, _, _, h => by unfold RdIn at h ⊢; exact h
  | .int, _, _, h => by unfold RdIn at h ⊢; exact h
  | .bool, _, _, h => by unfold RdIn at h ⊢; exact h
  | .sl e, xs, _, h => by
    unfold RdIn at h ⊢
    obtain ⟨A, c, hcs, hn, hm, hz, h⟩ := h
    refine ⟨A, c, hcs, hn, hm, hz, ?_⟩
    rcases h with h | ⟨b, off, hA, hb, h⟩
    · exact .inl h
    · refine .inr ⟨b, off, hA, hS b hb, fun i hi => ?_⟩
      obtain ⟨es, hc, hr⟩ := h i hi
      have hl := hr.len
      refine ⟨es, fun j hj => ?_, hr.keep hk hS⟩
      have := hc j hj
      rw [List.getElem?_eq_getElem (by omega)] at this ⊢
      exact (hk _ _ hb this).1
  | .unit, _, _, h => by unfold RdIn at h ⊢; exact h
  | .prod a b, _, _, h => by
    unfold RdIn at h ⊢
    obtain ⟨c1, c2, rfl, h1, h2⟩ := h
    exact ⟨c1, c2, rfl, h1.keep hk hS, h2.keep hk hS⟩
  | .st p, _, _, h => by unfold RdIn at h ⊢; exact h.keep (t := p) hk hS
  | .arr n e, _, _, h => by
    unfold RdIn at h ⊢
    exact ⟨h.1, h.2.1, fun i hi => (h.2.2 i hi).keep hk hS⟩
theorem RdIn.mono {w : World} {S S' : Nat → Prop} (hS : ∀ b, S b → S' b) {t : Ty} {x : t.T} {cs : List Value} (h : RdIn w S t x cs) : RdIn w S' t x cs := h.keep (fun _ _ hs hv => ⟨hv, hS _ hs⟩) hS
theorem RdIn.below {w w' : World} {S : Nat → Prop} {t : Ty} {x : t.T} {cs : List Value} (h : RdIn w S t x cs) (hb : Below w.heap.size w w') : RdIn w' S t x cs :=
  h.keep (fun p v hs hv => ⟨by rw [hb.cell (block_lt_of_cell hv)]; exact hv, hs⟩) (fun _ h => h)
/-- all is kept but one block -/
theorem RdIn.apart {w w' : World} {S : Nat → Prop} {g : Nat} {t : Ty} {x : t.T} {cs : List Value} (h : RdIn w S t x cs) (hS : ∀ b, S b → b ≠ g) (hk : ∀ p : Addr, p.block ≠ g → p.block < w.heap.size → w'.cell? p = w.cell? p) : RdIn w' S t x cs :=
  h.keep (fun p v hs hv => ⟨by rw [hk p (hS _ hs) (block_lt_of_cell hv)]; exact hv, hs⟩) (fun _ h => h)
/-! ### what comes in -/
section
variable {H : Type} {enc : TypeId × Value → H} {P : Program} {w : World} {base : Nat} {spare : Nat → Bool} {held : Bool}

end
end Go.Proofs.Ytclbihcggjjgaaa
/- Boxes: blocks of the call's own, known whole. -/
namespace Go.Proofs.Ytclbihcggjjgaaa
open Go.RowKit

theorem i64_fit {n : Int} (h : -1000000000 ≤ n ∧ n ≤ 1000000000) : IntKind.i64.wrap n = n := IntWalk.i64_in _ (by omega)
theorem results_row2 {P : Program} {fn : Func} {p u : Tmp} {ty : TypeId} (h : fn.results = #[.cell p ty, .tmp u]) (tmps : Array Value) (w : World) (g : Nat) (t : TypeId) (cs : Array Value) (fr : Nat × Nat) (d : TypeDesc)
    (hp : tmps.getD p undef = .pointer (some ⟨g, 0, none⟩)) (hg : w.heap[g]? = some (.cells cs t fr))
    (hu : P.underlying ty = some d) (hd : (match d with | .struct _ | .array _ _ => true | _ => false) = true) (hi : (P.info? ty).map (·.size) = some cs.size) :
    (results fn tmps).run P w = .ok (.tuple #[.agg cs, tmps.getD u undef]) w := by
  rw [results_cell_tmp h, hp]
  simp [asAddr, run_loadVar_row w g t ty cs fr d hg hu hd hi, Result.andThen]

/-- A block of cells, whole. -/
def BoxOf (w : World) (g : Nat) (cs : Array Value) (t : TypeId) : Prop := w.heap[g]? = some (.cells cs t (0, 0))
theorem BoxOf.lt {w : World} {g : Nat} {cs : Array Value} {t : TypeId} (h : BoxOf w g cs t) : g < w.heap.size := by
  unfold BoxOf at h
  rcases Nat.lt_or_ge g w.heap.size with h1 | h1
  · exact h1
  · rw [Array.getElem?_eq_none h1] at h; cases h
theorem BoxOf.cell {w : World} {g : Nat} {cs : Array Value} {t : TypeId} (h : BoxOf w g cs t) : ∀ o, w.cell? ⟨g, o, none⟩ = cs.toList[o]? := fun o => by
  rw [cell_of_row w g o cs t (0, 0) h, Array.getElem?_toList]
theorem BoxOf.free {w : World} {g : Nat} {cs : Array Value} {t : TypeId} (h : BoxOf w g cs t) : ∀ o, w.frozen? ⟨g, o, none⟩ = false := fun o => by
  unfold BoxOf at h
  simp [World.frozen?, h]
theorem BoxOf.next {w w' : World} {g : Nat} {cs : Array Value} {t : TypeId} (h : BoxOf w g cs t) (hb : Below w.heap.size w w') : BoxOf w' g cs t := by
  have hg := h.lt
  unfold BoxOf at *
  rw [hb.block g hg]; exact h
theorem BoxOf.new (w : World) (cs : Array Value) (t : TypeId) : BoxOf (w.alloc (.cells cs t)) w.heap.size cs t := heap_alloc_new _ _
theorem BoxOf.new' (w : World) (g : Nat) (cs : Array Value) (t : TypeId) (hg : g = w.heap.size) : BoxOf (w.alloc (.cells cs t)) g cs t := hg ▸ heap_alloc_new _ _
theorem BoxOf.alloc {w : World} {g : Nat} {cs : Array Value} {t : TypeId} (h : BoxOf w g cs t) (o : Obj) : BoxOf (w.alloc o) g cs t := h.next (Ext.alloc (Below.refl _ _) o)
theorem BoxOf.drew {w : World} {g : Nat} {cs : Array Value} {t : TypeId} (h : BoxOf w g cs t) : BoxOf w.drew g cs t := h
theorem BoxOf.set {w : World} {g : Nat} {cs : Array Value} {t : TypeId} (h : BoxOf w g cs t) (ds : Array Value) : BoxOf (w.setRow g ds) g ds t := setRow_heap w _ _ _ _ _ h
theorem Ext.setRow {a b : World} (h : Below a.heap.size a b) {g : Nat} (hg : a.heap.size ≤ g) (cs : Array Value) : Below a.heap.size a (b.setRow g cs) := below_setRow h hg cs
end Go.Proofs.Ytclbihcggjjgaaa
/- Boxes beside rows of the call's own. -/
namespace Go.Proofs.Ytclbihcggjjgaaa
open Go.RowKit

theorem own_block {w : World} {base e n : Nat} {size : Nat} {v : Value} {xs : List Value} (h : w.ownsRow base e size v n xs) {k : Nat} (hk : v.ownBlock = some k) : base ≤ k := by
  rcases h.2 with ⟨rfl, _⟩ | ⟨g, cap, cur, rfl, hb, _⟩
  · simp [Value.ownBlock] at hk
  · simp [Value.ownBlock] at hk; omega
theorem own_lt {w : World} {base e n : Nat} {size : Nat} {v : Value} {xs : List Value} (h : w.ownsRow base e size v n xs) {k : Nat} (hk : v.ownBlock = some k) : k < w.heap.size := by
  rcases h.2 with ⟨rfl, _⟩ | ⟨g, cap, cur, rfl, hb, hg, _⟩
  · simp [Value.ownBlock] at hk
  · simp [Value.ownBlock] at hk
    subst hk
    exact (Array.getElem?_eq_some_iff.1 hg).1
theorem own_base {w : World} {base base' e n : Nat} {size : Nat} {v : Value} {xs : List Value} (h : w.ownsRow base e size v n xs) (hb : base' ≤ base) : w.ownsRow base' e size v n xs := by
  refine ⟨h.1, ?_⟩
  rcases h.2 with h2 | ⟨g, cap, cur, hv, hg, hr⟩
  · exact .inl h2
  · exact .inr ⟨g, cap, cur, hv, by omega, hr⟩
/-- what is owned is owned behind a call -/
theorem own_next {w w' : World} {base e n : Nat} {size : Nat} {v : Value} {xs : List Value} (h : w.ownsRow base e size v n xs) (hb : Below w.heap.size w w') : w'.ownsRow base e size v n xs := by
  refine ⟨h.1, ?_⟩
  rcases h.2 with h2 | ⟨g, cap, cur, hv, hg, hr, hrest⟩
  · exact .inl h2
  · exact .inr ⟨g, cap, cur, hv, hg, by rw [hb.block g (Array.getElem?_eq_some_iff.1 hr).1]; exact hr, hrest⟩
theorem BoxOf.grown {w w' : World} {g : Nat} {cs : Array Value} {t : TypeId} {row : Option Nat} (h : BoxOf w g cs t) (hg : w.grownBy w' row) (hr : row ≠ some g) : BoxOf w' g cs t := by
  have hl := h.lt
  unfold BoxOf at *
  rw [hg.block g hl (fun e => hr e.symm)]; exact h
end Go.Proofs.Ytclbihcggjjgaaa
/- Data with depth: what holds when numbers in it are written; lists that a call makes itself. -/
namespace Go.Proofs.Ytclbihcggjjgaaa
open Go.RowKit

/-! ### numbers are written -/
def InK : IntKind → Int → Prop
  | .u8, n => 0 ≤ n ∧ n < 256
  | .u32, n => 0 ≤ n ∧ n < 2 ^ 32
  | .i64, n => IsInt n
  | _, _ => True
def LikeV (v v' : Value) : Prop := v' = v ∨ ∃ k n n', v = .int k n ∧ v' = .int k n' ∧ InK k n'
def Like (cs cs' : List Value) : Prop := cs.length = cs'.length ∧ ∀ (i : Nat) (v v' : Value), cs[i]? = some v → cs'[i]? = some v' → LikeV v v'
theorem Like.refl (cs : List Value) : Like cs cs := ⟨rfl, fun i v v' h h' => .inl (by rw [h] at h'; exact (Option.some.inj h').symm)⟩
theorem Like.one {v : Value} {cs' : List Value} (h : Like [v] cs') : ∃ v', cs' = [v'] ∧ LikeV v v' := by
  obtain ⟨h1, h2⟩ := h
  match cs', h1 with
  | [v'], _ => exact ⟨v', rfl, h2 0 v v' rfl rfl⟩
theorem Like.nil {cs' : List Value} (h : Like [] cs') : cs' = [] := List.eq_nil_of_length_eq_zero h.1.symm
theorem Like.split {c1 c2 cs' : List Value} (h : Like (c1 ++ c2) cs') : ∃ d1 d2, cs' = d1 ++ d2 ∧ Like c1 d1 ∧ Like c2 d2 := by
  have hl := h.1
  rw [List.length_append] at hl
  refine ⟨cs'.take c1.length, cs'.drop c1.length, (List.take_append_drop _ _).symm, ⟨by simp; omega, fun i v v' h1 h2 => ?_⟩, ⟨by simp; omega, fun i v v' h1 h2 => ?_⟩⟩
  · have hi : i < c1.length := (List.getElem?_eq_some_iff.1 h1).1
    refine h.2 i v v' (by rw [List.getElem?_append_left hi]; exact h1) ?_
    rw [List.getElem?_take, if_pos hi] at h2
    exact h2
  · refine h.2 (c1.length + i) v v' (by rw [List.getElem?_append_right (by omega), Nat.add_sub_cancel_left]; exact h1) ?_
    rw [List.getElem?_drop] at h2
    exact h2
theorem Like.part {cs cs' : List Value} (h : Like cs cs') (i n : Nat) : Like ((cs.drop i).take n) ((cs'.drop i).take n) := by
  refine ⟨by simp [h.1], fun j v v' h1 h2 => ?_⟩
  rw [List.getElem?_take] at h1 h2
  split at h1
  · rename_i hj
    rw [if_pos hj] at h2
    rw [List.getElem?_drop] at h1 h2
    exact h.2 _ _ _ h1 h2
  · cases h1

/-- the cells of a world, but one number -/
def NumAt (w w' : World) : Prop := ∀ p v, w.cell? p = some v → ∃ v', w'.cell? p = some v' ∧ LikeV v v'
theorem NumAt.cells {w w' : World} (hw : NumAt w w') {b o n : Nat} {es : List Value} (hl : es.length = n) (hc : ∀ j, j < n → w.cell? ⟨b, o + j, none⟩ = es[j]?) :
    ∃ es' : List Value, es'.length = n ∧ (∀ j, j < n → w'.cell? ⟨b, o + j, none⟩ = es'[j]?) ∧ Like es es' := by
  have hx : ∀ j, j < n → ∃ v', w'.cell? ⟨b, o + j, none⟩ = some v' ∧ LikeV (es.getD j undef) v' := by
    intro j hj
    have h1 := hc j hj
    rw [List.getElem?_eq_getElem (by omega)] at h1
    obtain ⟨v', h2, h3⟩ := hw _ _ h1
    refine ⟨v', h2, ?_⟩
    rw [List.getD_eq_getElem?_getD, List.getElem?_eq_getElem (by omega)]
    exact h3
  obtain ⟨l, hll, hlr⟩ := choose_list (R := fun j v' => w'.cell? ⟨b, o + j, none⟩ = some v' ∧ LikeV (es.getD j undef) v') n hx
  refine ⟨l, hll, fun j hj => ?_, by omega, fun j v v' h1 h2 => ?_⟩
  · rw [List.getElem?_eq_getElem (by omega)]
    exact (hlr j (by omega)).1
  · obtain ⟨hj, rfl⟩ := List.getElem?_eq_some_iff.1 h2
    have h3 := (hlr j hj).2
    rw [List.getD_eq_getElem?_getD, h1] at h3
    exact h3

/-! ### lists that a call makes -/
/-- a row of cells that may be written -/
def Live (w : World) (b : Nat) : Prop := ∃ cs t, w.heap[b]? = some (.cells cs t (0, 0))
theorem Live.lt {w : World} {b : Nat} (h : Live w b) : b < w.heap.size := by
  obtain ⟨_, _, h⟩ := h
  exact (Array.getElem?_eq_some_iff.1 h).1
theorem Live.below {w w' : World} {b : Nat} (h : Live w b) (hb : Below w.heap.size w w') : Live w' b := by
  have hl := h.lt
  obtain ⟨cs, t, h⟩ := h
  exact ⟨cs, t, by rw [hb.block b hl]; exact h⟩
theorem Live.set {w : World} {b : Nat} (h : Live w b) (a : Addr) (v : Value) : Live (w.setCell a v) b := by
  obtain ⟨cs, t, h⟩ := h
  by_cases e : b = a.block
  · subst e
    exact ⟨_, t, by simp [World.setCell, Array.getElem?_modify, h]; rfl⟩
  · exact ⟨cs, t, by rw [Below.heap_setCell _ _ _ _ e]; exact h⟩
theorem Live.grown {w w' : World} {b : Nat} {row : Option Nat} (h : Live w b) (hg : w.grownBy w' row) (hne : some b ≠ row) : Live w' b := by
  have hl := h.lt
  obtain ⟨cs, t, h⟩ := h
  exact ⟨cs, t, by rw [hg.block b hl hne]; exact h⟩
theorem Live.free {w : World} {b : Nat} (h : Live w b) (o : Nat) : w.frozen? ⟨b, o, none⟩ = false := by
  obtain ⟨cs, t, h⟩ := h
  simp [World.frozen?, h]
/-- memory that is new behind a call -/
def NewB (base : Nat) (w : World) (b : Nat) : Prop := base ≤ b ∧ b < w.heap.size ∧ Live w b
def Fresh (w : World) (base : Nat) (v : Value) (b : Nat) : Prop := base ≤ b ∧ b < w.heap.size ∧ v.ownBlock ≠ some b ∧ Live w b
def OwnL (w : World) (base : Nat) (tid : TypeId) (e : Ty) (v : Value) (xs : List e.T) : Prop :=
  ∃ ess : List (List Value), ess.length = xs.length ∧ (∀ i (h : i < xs.length) (h' : i < ess.length), RdIn w (Fresh w base v) e xs[i] ess[i]) ∧ w.ownsRow base tid e.size v xs.length ess.flatten
theorem OwnL.nil (w : World) (base : Nat) (tid : TypeId) (e : Ty) : OwnL w base tid e (.slice none 0 0) [] := ⟨[], rfl, fun i h => absurd h (by simp), by simp, .inl ⟨rfl, rfl⟩⟩
theorem Fresh.next {w w' : World} {base : Nat} {v : Value} {b : Nat} (h : Fresh w base v b) (hb : Below w.heap.size w w') : Fresh w' base v b := ⟨h.1, Nat.lt_of_lt_of_le h.2.1 hb.size, h.2.2.1, h.2.2.2.below hb⟩
theorem OwnL.next {w w' : World} {base : Nat} {tid : TypeId} {e : Ty} {v : Value} {xs : List e.T} (h : OwnL w base tid e v xs) (hb : Below w.heap.size w w') : OwnL w' base tid e v xs := by
  obtain ⟨ess, hl, hr, ho⟩ := h
  exact ⟨ess, hl, fun i h h' => ((hr i h h').below hb).mono fun b hb' => hb'.next hb, own_next ho hb⟩
theorem flatten_at {n : Nat} : ∀ (ess : List (List Value)), (∀ es ∈ ess, es.length = n) → ∀ i j, j < n → ess.flatten[i * n + j]? = (ess[i]?).bind fun es => es[j]? := by
  intro ess
  induction ess with
  | nil => intro _ i j _; simp
  | cons a ess ih =>
    intro h i j hj
    have ha := h a (by simp)
    rw [List.flatten_cons]
    rcases i with _ | i
    · rw [List.getElem?_append_left (by omega)]
      simp
    · rw [List.getElem?_append_right (by rw [ha, Nat.add_mul]; omega), ha, show (i + 1) * n + j - n = i * n + j by rw [Nat.add_mul]; omega, ih (fun es he => h es (by simp [he])) i j hj]
      simp
theorem OwnL.rdin {w : World} {base : Nat} {tid : TypeId} {e : Ty} {v : Value} {xs : List e.T} (h : OwnL w base tid e v xs) (hz : xs.length * e.bytes ≤ 140737488355328) : RdIn w (NewB base w) (.sl e) xs [v] := by
  obtain ⟨ess, hl, hr, ho⟩ := h
  have hes : ∀ es ∈ ess, es.length = e.size := by
    intro es he
    obtain ⟨i, hi, rfl⟩ := List.getElem_of_mem he
    exact (hr i (by omega) hi).len
  rcases ho.2 with ⟨rfl, h0⟩ | ⟨g, cap, cur, rfl, hb, hg, hn, hm, hsz, htk⟩
  · have hx : xs = [] := List.eq_nil_of_length_eq_zero h0
    subst hx
    exact rdin_sl.2 ⟨none, 0, rfl, by simp, by simp [maxLen], by simp, .inl rfl⟩
  · refine rdin_sl.2 ⟨some ⟨g, 0, none⟩, cap, rfl, hn, hm, hz, .inr ⟨g, 0, rfl, ⟨hb, (Array.getElem?_eq_some_iff.1 hg).1, _, _, hg⟩, fun i hi => ⟨ess[i]'(by omega), fun j hj => ?_, (hr i hi (by omega)).mono fun b hb => ⟨hb.1, hb.2.1, hb.2.2.2⟩⟩⟩⟩
    have h1 := flatten_at ess hes i j hj
    rw [List.getElem?_eq_getElem (show i < ess.length by omega)] at h1
    show w.cell? ⟨g, 0 + i * e.size + j, none⟩ = _
    rw [Nat.zero_add, cell_of_row w g _ cur tid (0, 0) hg]
    have h2 : i * e.size + j < xs.length * e.size := by
      have : (i + 1) * e.size ≤ xs.length * e.size := Nat.mul_le_mul_right _ (by omega)
      rw [Nat.add_mul] at this
      omega
    rw [← htk, List.getElem?_take, if_pos h2] at h1
    simpa using h1
theorem RdIn.plain {w : World} {S : Nat → Prop} : (t : Ty) → {x : t.T} → {cs : List Value} → RdIn w S t x cs → ∀ u ∈ cs, u.oneCell' = true
  | .byte, _, _, h => by obtain rfl := rdin_byte.1 h; intro u hu; simp at hu; subst hu; rfl
  | .u32, _, _, h => by obtain ⟨rfl, _⟩ := rdin_u32.1 h; intro u hu; simp at hu; subst hu; rfl
  | .int, _, _, h => by obtain ⟨rfl, _⟩ := rdin_int.1 h; intro u hu; simp at hu; subst hu; rfl
  | .bool, _, _, h => by obtain rfl := rdin_bool.1 h; intro u hu; simp at hu; subst hu; rfl
  | .sl e, _, _, h => by obtain ⟨_, _, rfl, _⟩ := rdin_sl.1 h; intro u hu; simp at hu; subst hu; rfl
  | .unit, _, _, h => by obtain rfl := rdin_unit.1 h; intro u hu; simp at hu
  | .prod a b, _, _, h => by
    obtain ⟨c1, c2, rfl, h1, h2⟩ := (show ∃ c1 c2, _ = c1 ++ c2 ∧ _ from h)
    intro u hu
    rcases List.mem_append.1 hu with hu | hu
    · exact RdIn.plain a h1 u hu
    · exact RdIn.plain b h2 u hu
  | .st p, _, _, h => RdIn.plain p (rdin_st.1 h)
  | .arr m e, xs, cs, h => by
    obtain ⟨h1, h2, h3⟩ := rdin_arr.1 h
    intro u hu
    obtain ⟨i, hi, rfl⟩ := List.getElem_of_mem hu
    by_cases h0 : e.size = 0
    · rw [h0] at h2; omega
    · have hq : i / e.size < xs.length := by
        have hlt : i / e.size < m := Nat.div_lt_of_lt_mul (by rw [Nat.mul_comm]; omega)
        omega
      refine RdIn.plain e (h3 (i / e.size) hq) _ ?_
      rw [List.mem_iff_getElem?]
      refine ⟨i % e.size, ?_⟩
      have hm := Nat.mod_lt i (Nat.pos_of_ne_zero h0)
      rw [List.getElem?_take, if_pos hm, List.getElem?_drop, Nat.mul_comm, Nat.div_add_mod]
      exact List.getElem?_eq_getElem hi

section
variable {P : Program} {w : World}
/-- one more element -/
theorem wp_push {o : Oper} {a : Act} {K : Act → World → Prop} {Q : Exit → Act → World → Prop} (s x : Operand) (t : TypeId)
    (ho : o.op = .call { callee := .builtin .append, args := #[s, x], argTypes := #[t, t] })
    (base : Nat) (tid : TypeId) (i : TypeInfo) (z : Value) (bytes : Nat) (e : Ty) (ht : P.underlying t = some (.slice tid)) (hi : P.info? tid = some i) (hz : i.zero = some z)
    (hsize : i.size = e.size) (hby : i.bytes = bytes) (hzs : z.cells.size = e.size) (hsz : 0 < e.size)
    (v : Value) (xs : List e.T) (hs : a.eval s = v) (hown : OwnL w base tid e v xs)
    (A : Option Addr) (c : Nat) (news : List Value) (hx : a.eval x = .slice A 1 c) (hr : Rd w A news) (y : e.T) (hy : RdIn w (Fresh w base v) e y news)
    (h63 : xs.length + 1 ≤ maxLen) (hbytes : (xs.length + 1) * bytes ≤ 140737488355328) (hbase : base ≤ w.heap.size)
    (h : ∀ v' w', OwnL w' base tid e v' (xs ++ [y]) → w.grownBy w' v.ownBlock → (∀ r, v.ownBlock = some r → base ≤ r) → K (a.put o.dst v') w') : o.wp P a w K Q := by
  obtain ⟨ess, hl, hre, ho2⟩ := hown
  refine wp_append_rd w s x t ho base tid i z e.size bytes ht hi hz hsize hby hzs hsz v _ _ hs ho2 A 1 c news hx (by rw [hy.len]; omega) hr (RdIn.plain e hy) h63 hbytes hbase ?_
  intro v' w' h2 h3 h4
  have keep : ∀ (y : e.T) (es : List Value), RdIn w (Fresh w base v) e y es → RdIn w' (Fresh w' base v') e y es := by
    intro y es hy
    refine hy.keep (S' := Fresh w' base v') (fun p u hp hu => ?_) fun b hb => ?_
    · refine ⟨h3.cell hu (fun e => hp.2.2.1 e.symm), hp.1, Nat.lt_of_lt_of_le hp.2.1 h3.size, ?_, hp.2.2.2.grown h3 (fun e => hp.2.2.1 e.symm)⟩
      rcases h4 with h4 | h4
      · rw [h4]; exact hp.2.2.1
      · rw [h4]
        intro e
        injection e with e
        have := hp.2.1
        omega
    · refine ⟨hb.1, Nat.lt_of_lt_of_le hb.2.1 h3.size, ?_, hb.2.2.2.grown h3 (fun e => hb.2.2.1 e.symm)⟩
      rcases h4 with h4 | h4
      · rw [h4]; exact hb.2.2.1
      · rw [h4]
        intro e
        injection e with e
        have := hb.2.1
        omega
  refine h v' w' ⟨ess ++ [news], by simp [hl], fun j h5 h6 => ?_, ?_⟩ h3 (fun r e => own_block ho2 e)
  · rw [List.length_append, List.length_singleton] at h5
    by_cases hj : j < xs.length
    · rw [List.getElem_append_left hj, List.getElem_append_left (by omega)]
      exact keep _ _ (hre j hj (by omega))
    · have : j = xs.length := by omega
      subst this
      simp only [List.getElem_append_right (Nat.le_refl _), ← hl, Nat.sub_self, List.getElem_singleton]
      simp only [hl]
      have e1 : (xs ++ [y])[xs.length]'(by simp) = y := by simp
      rw [e1]
      exact keep _ _ hy
  · rw [List.length_append, List.length_singleton, List.flatten_append]
    simpa using h2
end
end Go.Proofs.Ytclbihcggjjgaaa
/- Data with depth: a list of numbers is copied. -/
namespace Go.Proofs.Ytclbihcggjjgaaa
open Go.RowKit

def Ty.flat : Ty → Bool
  | byte | u32 | int | bool => true
  | _ => false
def encT : (e : Ty) → e.T → Value
  | .byte, x => byteV x
  | .u32, n => .int .u32 ((show Nat from n : Nat) : Int)
  | .int, n => .int .i64 (show Int from n)
  | .bool, b => .bool b
  | _, _ => undef
theorem flat_size {e : Ty} (h : e.flat = true) : e.size = 1 := by cases e <;> simp_all [Ty.flat, Ty.size]
theorem flat_enc {w : World} {S : Nat → Prop} {e : Ty} (h : e.flat = true) {x : e.T} {es : List Value} (hr : RdIn w S e x es) : es = [encT e x] := by
  cases e with
  | byte => exact rdin_byte.1 hr
  | u32 => exact (rdin_u32.1 hr).1
  | int => exact (rdin_int.1 hr).1
  | bool => exact rdin_bool.1 hr
  | _ => cases h
/-- a list of numbers, as cells -/
theorem RdIn.row {w : World} {S : Nat → Prop} {e : Ty} (he : e.flat = true) {xs : List e.T} {A : Option Addr} {n c : Nat} (h : RdIn w S (.sl e) xs [.slice A n c]) : xs.length = n ∧ Rd w A (xs.map (encT e)) := by
  obtain ⟨A', c', h1, _, _, _, h⟩ := rdin_sl.1 h
  injection h1 with h1 _
  injection h1 with h1 h2 h3
  refine ⟨h2.symm, ?_⟩
  rcases h with h | ⟨b, off, hA, _, h⟩
  · exact .inl (by rw [h]; rfl)
  · refine .inr ⟨b, off, h1.trans hA, fun j hj => ?_⟩
    have hj' : j < xs.length := by simpa using hj
    obtain ⟨es, hc, hr⟩ := h j hj'
    have h0 := hc 0 (by rw [flat_size he]; decide)
    rw [flat_enc he hr, flat_size he] at h0
    simpa [hj'] using h0
theorem RdIn.bytes_bs {w : World} {S : Nat → Prop} {bs : List UInt8} {A : Option Addr} {n c : Nat} (h : RdIn w S (.sl .byte) bs [.slice A n c]) : Bs w A n bs := by
  have h1 := RdIn.row (e := .byte) rfl h
  exact ⟨h1.1, h1.2⟩
theorem RdIn.bytes {w : World} {S : Nat → Prop} {bs : List UInt8} {v : Value} (h : RdIn w S (.sl .byte) bs [v]) : ∃ A c, v = .slice A bs.length c ∧ Bs w A bs.length bs := by
  obtain ⟨A, c, h1, _⟩ := rdin_sl.1 h
  have hv : v = .slice A bs.length c := (List.cons.inj h1).1
  subst hv
  exact ⟨A, c, rfl, RdIn.bytes_bs h⟩

section
variable {P : Program} {w : World}
end
end Go.Proofs.Ytclbihcggjjgaaa
/- Layer 30 (model): plain arrays as data; a request in new memory. -/
namespace Go.Proofs.Ytclbihcggjjgaaa
open Go Go.RowKit
set_option linter.unusedSimpArgs false
set_option linter.unusedVariables false

abbrev AskTy : Ty := .st (.prod .byte (.prod .int (.prod .int (.prod (.sl .byte) .unit))))
abbrev GoTy : Ty := .st (.prod .int (.prod (.st (.prod .byte (.prod .int (.prod .int (.prod (.sl .byte) .unit))))) (.prod (.sl .int) .unit)))
section
variable {w : World} {S : Nat → Prop}
theorem ask_view {a : AskTy.T} {cs : List Value} (h : RdIn w S AskTy a cs) : ∃ (ki : UInt8) (at' many : Int) (bs : List UInt8) (v : Value), a = (ki, at', many, bs, ()) ∧ cs = [.int .u8 (ki.toNat : Int), .int .i64 at', .int .i64 many, v] ∧ IsInt at' ∧ IsInt many ∧ RdIn w S (.sl .byte) bs [v] := by
  obtain ⟨ki, at', many, bs, u⟩ := a
  obtain ⟨c0, d0, rfl, r0, h⟩ := rdin_prod.1 (rdin_st.1 h)
  obtain ⟨c1, d1, rfl, r1, h⟩ := rdin_prod.1 h
  obtain ⟨c2, d2, rfl, r2, h⟩ := rdin_prod.1 h
  obtain ⟨c3, d3, rfl, r3, h⟩ := rdin_prod.1 h
  obtain rfl := rdin_unit.1 h
  obtain rfl := rdin_byte.1 r0
  obtain ⟨rfl, i1⟩ := rdin_int.1 r1
  obtain ⟨rfl, i2⟩ := rdin_int.1 r2
  obtain ⟨A, c, e, _⟩ := rdin_sl.1 r3
  subst e
  exact ⟨ki, at', many, bs, _, rfl, rfl, i1, i2, r3⟩
theorem ask_mk {ki : UInt8} {at' many : Int} {bs : List UInt8} {v : Value} (h1 : IsInt at') (h2 : IsInt many) (h : RdIn w S (.sl .byte) bs [v]) : RdIn w S AskTy (ki, at', many, bs, ()) [.int .u8 (ki.toNat : Int), .int .i64 at', .int .i64 many, v] :=
  rdin_st.2 (rdin_prod.2 ⟨[_], [_, _, _], rfl, rdin_byte.2 rfl, rdin_prod.2 ⟨[_], [_, _], rfl, rdin_int.2 ⟨rfl, h1⟩, rdin_prod.2 ⟨[_], [_], rfl, rdin_int.2 ⟨rfl, h2⟩, rdin_prod.2 ⟨[_], [], rfl, h, rdin_unit.2 rfl⟩⟩⟩⟩)
theorem going_view {g : GoTy.T} {cs : List Value} (h : RdIn w S GoTy g cs) : ∃ (nu : Int) (ki : UInt8) (at' many : Int) (bs : List UInt8) (v : Value) (ms : List Int) (u : Value), g = (nu, (ki, at', many, bs, ()), ms, ()) ∧ cs = [.int .i64 nu, .int .u8 (ki.toNat : Int), .int .i64 at', .int .i64 many, v, u] ∧ IsInt nu ∧ IsInt at' ∧ IsInt many ∧ RdIn w S (.sl .byte) bs [v] ∧ RdIn w S (.sl .int) ms [u] := by
  obtain ⟨nu, a, ms, x⟩ := g
  obtain ⟨c0, d0, rfl, r0, h⟩ := rdin_prod.1 (rdin_st.1 h)
  obtain ⟨c1, d1, rfl, r1, h⟩ := rdin_prod.1 h
  obtain ⟨c2, d2, rfl, r2, h⟩ := rdin_prod.1 h
  obtain rfl := rdin_unit.1 h
  obtain ⟨rfl, i0⟩ := rdin_int.1 r0
  obtain ⟨ki, at', many, bs, v, rfl, rfl, i1, i2, r3⟩ := ask_view r1
  obtain ⟨A, c, e, _⟩ := rdin_sl.1 r2
  subst e
  exact ⟨nu, ki, at', many, bs, v, ms, _, rfl, rfl, i0, i1, i2, r3, r2⟩
theorem going_mk {nu : Int} {ki : UInt8} {at' many : Int} {bs : List UInt8} {v : Value} {ms : List Int} {u : Value} (h0 : IsInt nu) (h1 : IsInt at') (h2 : IsInt many) (h : RdIn w S (.sl .byte) bs [v]) (h3 : RdIn w S (.sl .int) ms [u]) : RdIn w S GoTy (nu, (ki, at', many, bs, ()), ms, ()) [.int .i64 nu, .int .u8 (ki.toNat : Int), .int .i64 at', .int .i64 many, v, u] :=
  rdin_st.2 (rdin_prod.2 ⟨[_], [_, _, _, _, _], rfl, rdin_int.2 ⟨rfl, h0⟩, rdin_prod.2 ⟨[_, _, _, _], [_], rfl, ask_mk h1 h2 h, rdin_prod.2 ⟨[_], [], rfl, h3, rdin_unit.2 rfl⟩⟩⟩)
/-- a list, and its rows -/
theorem list_view {e : Ty} {xs : List e.T} {v : Value} (h : RdIn w S (.sl e) xs [v]) : ∃ A c, v = .slice A xs.length c ∧ xs.length ≤ c ∧ c ≤ maxLen ∧ xs.length * e.bytes ≤ 140737488355328 ∧ (0 < xs.length → ∃ b off, A = some ⟨b, off, none⟩ ∧ S b ∧ ∀ i (hi : i < xs.length), ∃ es : List Value, (∀ j, j < e.size → w.cell? ⟨b, off + i * e.size + j, none⟩ = es[j]?) ∧ RdIn w S e xs[i] es) := by
  obtain ⟨A, c, h1, hn, hm, hz, hx⟩ := rdin_sl.1 h
  refine ⟨A, c, (List.cons.inj h1).1, hn, hm, hz, fun h0 => ?_⟩
  rcases hx with hx | ⟨b, off, hA, hb, hx⟩
  · rw [hx] at h0; exact absurd h0 (by simp)
  · exact ⟨b, off, hA, hb, hx⟩
/-- a list of lists, and its rows -/
theorem lists_view {e : Ty} {xs : List (List e.T)} {v : Value} (h : RdIn w S (.sl (.sl e)) xs [v]) : ∃ A c, v = .slice A xs.length c ∧ xs.length ≤ c ∧ c ≤ maxLen ∧ xs.length * 24 ≤ 140737488355328 ∧ (0 < xs.length → ∃ b off, A = some ⟨b, off, none⟩ ∧ S b ∧ ∀ i (hi : i < xs.length), ∃ A' c', w.cell? ⟨b, off + i, none⟩ = some (.slice A' xs[i].length c') ∧ RdIn w S (.sl e) xs[i] [.slice A' xs[i].length c']) := by
  obtain ⟨A, c, h1, hn, hm, hz, hx⟩ := list_view h
  refine ⟨A, c, h1, hn, hm, hz, fun h0 => ?_⟩
  obtain ⟨b, off, hA, hb, hx⟩ := hx h0
  refine ⟨b, off, hA, hb, fun i hi => ?_⟩
  obtain ⟨es, hc, hr⟩ := hx i hi
  have h2 := hc 0 (show 0 < 1 by decide)
  obtain ⟨A', c', rfl, _⟩ := rdin_sl.1 hr
  refine ⟨A', c', ?_, hr⟩
  have h3 : off + i * Ty.size (.sl e) + 0 = off + i := by show off + i * 1 + 0 = off + i; omega
  rw [h3] at h2
  exact h2
end
theorem mbox_self {w : World} {g : Nat} {cs : Array Value} {t : TypeId} (h : BoxOf w g cs t) (i : Nat) (v : Value) : BoxOf (w.setCell ⟨g, i, none⟩ v) g (cs.setIfInBounds i v) t := by
  unfold BoxOf at *
  simp [World.setCell, Array.getElem?_modify, h]
theorem mbox_else {w : World} {g k : Nat} {cs : Array Value} {t : TypeId} (h : BoxOf w g cs t) (hk : g ≠ k) (i : Nat) (v : Value) : BoxOf (w.setCell ⟨k, i, none⟩ v) g cs t := by
  unfold BoxOf at *
  rw [Below.heap_setCell _ _ _ _ hk]; exact h
theorem RdIn.setElse {w : World} {S : Nat → Prop} {t : Ty} {x : t.T} {cs : List Value} (h : RdIn w S t x cs) {k : Nat} (hS : ∀ b, S b → b ≠ k) (i : Nat) (v : Value) : RdIn (w.setCell ⟨k, i, none⟩ v) S t x cs :=
  h.apart (g := k) hS fun p hp _ => World.cell?_of_block (Below.heap_setCell _ _ _ _ hp)
theorem msize (w : World) (a : Addr) (v : Value) : (w.setCell a v).heap.size = w.heap.size := by simp [World.setCell]
theorem OwnL.setElse {w : World} {base : Nat} {tid : TypeId} {e : Ty} {v : Value} {xs : List e.T} (h : OwnL w base tid e v xs) {k : Nat} (hk : k < base) (i : Nat) (u : Value) : OwnL (w.setCell ⟨k, i, none⟩ u) base tid e v xs := by
  obtain ⟨ess, hl, hr, ho⟩ := h
  refine ⟨ess, hl, fun j h h' => ((hr j h h').setElse (k := k) (fun b hb => by have := hb.1; omega) i u).mono fun b hb => ⟨hb.1, by rw [msize]; exact hb.2.1, hb.2.2.1, hb.2.2.2.set _ _⟩, ho.1, ?_⟩
  rcases ho.2 with h2 | ⟨g, cap, cur, hv, hb, hg, hr⟩
  · exact .inl h2
  · exact .inr ⟨g, cap, cur, hv, hb, by rw [Below.heap_setCell _ _ _ _ (show g ≠ k by omega)]; exact hg, hr⟩
theorem OwnL.slice {w : World} {base : Nat} {tid : TypeId} {e : Ty} {v : Value} {xs : List e.T} (h : OwnL w base tid e v xs) : ∃ A c, v = .slice A xs.length c := by
  obtain ⟨ess, hl, hr, ho⟩ := h
  rcases ho.2 with ⟨rfl, h0⟩ | ⟨g, cap, cur, rfl, _⟩
  · exact ⟨none, 0, by rw [h0]⟩
  · exact ⟨_, _, rfl⟩
theorem minfo_u8 : ∃ i, Try.prog.info? 5 = some i ∧ i.zero = some (.int .u8 0) ∧ i.size = 1 ∧ i.bytes = 1 := info_parts (by kernel_rfl)
theorem minfo_int : ∃ i, Try.prog.info? 3 = some i ∧ i.zero = some (.int .i64 0) ∧ i.size = 1 ∧ i.bytes = 8 := info_parts (by kernel_rfl)
theorem minfo_bytes : ∃ i, Try.prog.info? 29 = some i ∧ i.zero = some (.slice none 0 0) ∧ i.size = 1 ∧ i.bytes = 24 := info_parts (by kernel_rfl)
theorem minfo_lists : ∃ i, Try.prog.info? 30 = some i ∧ i.zero = some (.slice none 0 0) ∧ i.size = 1 ∧ i.bytes = 24 := info_parts (by kernel_rfl)
theorem minfo_going : ∃ i, Try.prog.info? 64 = some i ∧ i.zero = some (.agg #[.int .i64 0, .int .u8 0, .int .i64 0, .int .i64 0, .slice none 0 0, .slice none 0 0]) ∧ i.size = 6 ∧ i.bytes = 80 := info_parts (by kernel_rfl)

end Go.Proofs.Ytclbihcggjjgaaa
/- Layer 30 (model): the reference's Twin: the blocks' values in new memory. -/
namespace Go.Proofs.Ytclbihcggjjgaaa
open Go Go.RowKit
set_option linter.unusedSimpArgs false
set_option linter.unusedVariables false

theorem view3 {w : World} {S : Nat → Prop} {ys : List (List (List UInt8))} {v : Value} (h : RdIn w S (.sl (.sl (.sl .byte))) ys [v]) : ∃ A c, v = .slice A ys.length c ∧ ys.length ≤ maxLen ∧ ys.length * 24 ≤ 140737488355328 ∧ (0 < ys.length → ∃ b off, A = some ⟨b, off, none⟩ ∧ S b ∧ ∀ i (hi : i < ys.length), ∃ A' c', w.cell? ⟨b, off + i, none⟩ = some (.slice A' ys[i].length c') ∧ RdIn w S (.sl (.sl .byte)) ys[i] [.slice A' ys[i].length c']) := by
  obtain ⟨A, c, h1, h2, h3, h4, h5⟩ := lists_view h
  exact ⟨A, c, h1, Nat.le_trans h2 h3, h4, h5⟩
theorem view2 {w : World} {S : Nat → Prop} {ys : List (List UInt8)} {v : Value} (h : RdIn w S (.sl (.sl .byte)) ys [v]) : ∃ A c, v = .slice A ys.length c ∧ ys.length ≤ maxLen ∧ ys.length * 24 ≤ 140737488355328 ∧ (0 < ys.length → ∃ b off, A = some ⟨b, off, none⟩ ∧ S b ∧ ∀ i (hi : i < ys.length), ∃ A' c', w.cell? ⟨b, off + i, none⟩ = some (.slice A' ys[i].length c') ∧ RdIn w S (.sl .byte) ys[i] [.slice A' ys[i].length c']) := by
  obtain ⟨A, c, h1, h2, h3, h4, h5⟩ := lists_view h
  exact ⟨A, c, h1, Nat.le_trans h2 h3, h4, h5⟩
theorem viewG {w : World} {S : Nat → Prop} {gs : List GoTy.T} {v : Value} (h : RdIn w S (.sl GoTy) gs [v]) : ∃ A c, v = .slice A gs.length c ∧ gs.length ≤ maxLen ∧ gs.length * 80 ≤ 140737488355328 ∧ (0 < gs.length → ∃ b off, A = some ⟨b, off, none⟩ ∧ S b ∧ ∀ i (hi : i < gs.length), ∃ es : List Value, (∀ j, j < 6 → w.cell? ⟨b, off + i * 6 + j, none⟩ = es[j]?) ∧ RdIn w S GoTy gs[i] es) := by
  obtain ⟨A, c, h1, h2, h3, h4, h5⟩ := list_view h
  exact ⟨A, c, h1, Nat.le_trans h2 h3, h4, h5⟩
theorem rd_row (w : World) (C : Array Value) (t : TypeId) : Rd (w.alloc (.cells C t)) (some ⟨w.heap.size, 0, none⟩) C.toList := .inr ⟨w.heap.size, 0, rfl, fun o ho => by
  rw [Nat.zero_add, World.cell?_alloc_mark]
  simp⟩
theorem RdIn.grownBy {w w' : World} {S : Nat → Prop} {t : Ty} {x : t.T} {cs : List Value} {row : Option Nat} (h : RdIn w S t x cs) (hg : w.grownBy w' row) (hS : ∀ b, S b → row ≠ some b) : RdIn w' S t x cs :=
  h.keep (fun p v hs hv => ⟨hg.cell hv (fun e => hS _ hs e.symm), hs⟩) (fun _ h => h)
theorem round_same {j : Nat} (h : Hid (wrap64 ((j : Int) + 1) = ((j + 1 : Nat) : Int))) : Value.int .i64 (wrap64 ((j : Int) + 1)) = .int .i64 ((j + 1 : Nat) : Int) := congrArg (Value.int .i64) h
theorem round_less {n j : Nat} (h : Hid (wrap64 ((j : Int) + 1) = ((j + 1 : Nat) : Int))) (hl : j < n) : n - (intOf (.int .i64 (wrap64 ((j : Int) + 1)))).toNat < n - (intOf (.int .i64 (j : Int))).toNat := by
  have e : intOf (.int .i64 (wrap64 ((j : Int) + 1))) = ((j + 1 : Nat) : Int) := (congrArg (fun z => intOf (Value.int .i64 z)) h).trans rfl
  rw [e]
  show n - (((j + 1 : Nat) : Int)).toNat < n - ((j : Int)).toNat
  omega
theorem own_apart {w0 w : World} {base : Nat} {v : Value} {t : Ty} {x : t.T} {cs : List Value} (h : RdIn w (NewB w0.heap.size w) t x cs) (hv : ∀ r, v.ownBlock = some r → r < w0.heap.size) (hb : base ≤ w0.heap.size) : RdIn w (Fresh w base v) t x cs :=
  h.mono fun b hb' => ⟨by have := hb'.1; omega, hb'.2.1, fun e => by have := hv b e; have := hb'.1; omega, hb'.2.2⟩
theorem OwnL.cast {w : World} {base : Nat} {tid : TypeId} {e : Ty} {v : Value} {xs ys : List e.T} (he : xs = ys) (h : OwnL w base tid e v xs) : OwnL w base tid e v ys := he ▸ h
theorem OwnL.lt {w : World} {base : Nat} {tid : TypeId} {e : Ty} {v : Value} {xs : List e.T} (h : OwnL w base tid e v xs) : ∀ r, v.ownBlock = some r → r < w.heap.size := by
  obtain ⟨_, _, _, ho⟩ := h
  exact fun r hr => own_lt ho hr

end Go.Proofs.Ytclbihcggjjgaaa
/- Lists that a call makes, whose elements lie apart: what each element is, where it lies, and that nobody else lies there. -/
namespace Go.Proofs.Ytclbihcggjjgaaa
open Go Go.RowKit
set_option linter.unusedVariables false

/-- what an element is: its cells, and the blocks it stands on -/
structure ElemP (α : Type) (n : Nat) where
  E : World → (Nat → Prop) → α → List Value → Prop
  frame : ∀ {w w' : World} {S : Nat → Prop} {x : α} {es : List Value}, E w S x es → (∀ b, S b → w'.heap[b]? = w.heap[b]?) → E w' S x es
  mono : ∀ {w : World} {S S' : Nat → Prop} {x : α} {es : List Value}, E w S x es → (∀ b, S b → S' b) → E w S' x es
  len : ∀ {w : World} {S : Nat → Prop} {x : α} {es : List Value}, E w S x es → es.length = n
  plain : ∀ {w : World} {S : Nat → Prop} {x : α} {es : List Value}, E w S x es → ∀ u ∈ es, u.oneCell' = true
/-- a list that a call made; F: the blocks it stands on -/
def OwnE {α : Type} {n : Nat} (P : ElemP α n) (w : World) (F : Nat → Prop) (base : Nat) (tid : TypeId) (v : Value) (xs : List α) : Prop :=
  ∃ (ess : List (List Value)) (Sf : Nat → Nat → Prop), ess.length = xs.length ∧ (∀ i (h : i < xs.length) (h' : i < ess.length), P.E w (Sf i) xs[i] ess[i]) ∧
    (∀ i b, Sf i b → F b ∧ v.ownBlock ≠ some b) ∧ (∀ i j b, Sf i b → Sf j b → i = j) ∧ (∀ r, v.ownBlock = some r → F r) ∧ w.ownsRow base tid n v xs.length ess.flatten
section
variable {α : Type} {n : Nat} {P : ElemP α n} {w w' : World} {F F' : Nat → Prop} {base : Nat} {tid : TypeId} {v : Value} {xs : List α}
theorem OwnE.nil (P : ElemP α n) (w : World) (F : Nat → Prop) (base : Nat) (tid : TypeId) : OwnE P w F base tid (.slice none 0 0) [] :=
  ⟨[], fun _ _ => False, rfl, fun i h => absurd h (by simp), fun _ _ h => h.elim, fun _ _ _ h => h.elim, fun r h => absurd h (by simp [Value.ownBlock]), by simp, .inl ⟨rfl, rfl⟩⟩
theorem own_frame {base e n : Nat} {size : Nat} {v : Value} {xs : List Value} (h : w.ownsRow base e size v n xs) (hf : ∀ r, v.ownBlock = some r → w'.heap[r]? = w.heap[r]?) : w'.ownsRow base e size v n xs := by
  refine ⟨h.1, ?_⟩
  rcases h.2 with h2 | ⟨g, cap, cur, hv, hg, hr, hrest⟩
  · exact .inl h2
  · exact .inr ⟨g, cap, cur, hv, hg, by rw [hf g (by rw [hv]; rfl)]; exact hr, hrest⟩
theorem OwnE.frame (h : OwnE P w F base tid v xs) (hf : ∀ b, F b → w'.heap[b]? = w.heap[b]?) : OwnE P w' F base tid v xs := by
  obtain ⟨ess, Sf, h1, h2, h3, h4, h5, h6⟩ := h
  exact ⟨ess, Sf, h1, fun i hi hi' => P.frame (h2 i hi hi') fun b hb => hf b (h3 i b hb).1, h3, h4, h5, own_frame h6 fun r hr => hf r (h5 r hr)⟩
theorem OwnE.mono (h : OwnE P w F base tid v xs) (hF : ∀ b, F b → F' b) : OwnE P w F' base tid v xs := by
  obtain ⟨ess, Sf, h1, h2, h3, h4, h5, h6⟩ := h
  exact ⟨ess, Sf, h1, h2, fun i b hb => ⟨hF b (h3 i b hb).1, (h3 i b hb).2⟩, h4, fun r hr => hF r (h5 r hr), h6⟩
theorem OwnE.next (h : OwnE P w F base tid v xs) (hF : ∀ b, F b → b < w.heap.size) (hb : Below w.heap.size w w') : OwnE P w' F base tid v xs :=
  h.frame fun b hb' => hb.block b (hF b hb')
theorem OwnE.setElse (h : OwnE P w F base tid v xs) {k : Nat} (hk : ¬ F k) (i : Nat) (u : Value) : OwnE P (w.setCell ⟨k, i, none⟩ u) F base tid v xs :=
  h.frame fun b hb => Below.heap_setCell _ _ _ _ (fun e => hk (by have e' : b = k := e; rw [← e']; exact hb))
theorem OwnE.cast {ys : List α} (he : xs = ys) (h : OwnE P w F base tid v xs) : OwnE P w F base tid v ys := he ▸ h
theorem OwnE.own (h : OwnE P w F base tid v xs) : ∃ ess : List (List Value), ess.length = xs.length ∧ w.ownsRow base tid n v xs.length ess.flatten := by
  obtain ⟨ess, Sf, h1, _, _, _, _, h6⟩ := h
  exact ⟨ess, h1, h6⟩
theorem OwnE.lt (h : OwnE P w F base tid v xs) : ∀ r, v.ownBlock = some r → r < w.heap.size := by
  obtain ⟨_, _, h⟩ := h.own
  exact fun r hr => own_lt h hr
theorem OwnE.base_le (h : OwnE P w F base tid v xs) : ∀ r, v.ownBlock = some r → base ≤ r := by
  obtain ⟨_, _, h⟩ := h.own
  exact fun r hr => own_block h hr
theorem OwnE.slice (h : OwnE P w F base tid v xs) : ∃ A c, v = .slice A xs.length c := by
  obtain ⟨_, _, h⟩ := h.own
  rcases h.2 with ⟨rfl, h0⟩ | ⟨g, cap, cur, rfl, _⟩
  · exact ⟨none, 0, by rw [h0]⟩
  · exact ⟨_, _, rfl⟩
end
section
variable {P : Program} {w : World}
/-- one more element, that lies apart -/
theorem wp_pushE {α : Type} {n : Nat} {EP : ElemP α n} {o : Oper} {a : Act} {K : Act → World → Prop} {Q : Exit → Act → World → Prop} (s x : Operand) (t : TypeId)
    (ho : o.op = .call { callee := .builtin .append, args := #[s, x], argTypes := #[t, t] })
    (base : Nat) (tid : TypeId) (i : TypeInfo) (z : Value) (bytes : Nat) (ht : P.underlying t = some (.slice tid)) (hi : P.info? tid = some i) (hz : i.zero = some z)
    (hsize : i.size = n) (hby : i.bytes = bytes) (hzs : z.cells.size = n) (hsz : 0 < n)
    (v : Value) (xs : List α) (F T : Nat → Prop) (hs : a.eval s = v) (hown : OwnE EP w F base tid v xs) (hF : ∀ b, F b → b < w.heap.size)
    (A : Option Addr) (c : Nat) (news : List Value) (hx : a.eval x = .slice A 1 c) (hr : Rd w A news) (y : α) (hy : EP.E w T y news) (hT : ∀ b, T b → ¬ F b ∧ b < w.heap.size)
    (h63 : xs.length + 1 ≤ maxLen) (hbytes : (xs.length + 1) * bytes ≤ 140737488355328) (hbase : base ≤ w.heap.size)
    (h : ∀ v' w', OwnE EP w' (fun b => F b ∨ T b ∨ v'.ownBlock = some b) base tid v' (xs ++ [y]) → w.grownBy w' v.ownBlock → (∀ r, v.ownBlock = some r → base ≤ r) → K (a.put o.dst v') w') : o.wp P a w K Q := by
  obtain ⟨ess, Sf, hl, hre, hS, hdis, hown1, ho2⟩ := hown
  refine wp_append_rd w s x t ho base tid i z n bytes ht hi hz hsize hby hzs hsz v _ _ hs ho2 A 1 c news hx (by rw [EP.len hy]; omega) hr (EP.plain hy) h63 hbytes hbase ?_
  intro v' w' h2 h3 h4
  have sameF : ∀ b, F b → v.ownBlock ≠ some b → w'.heap[b]? = w.heap[b]? := fun b hb hne => h3.block b (hF b hb) (fun e => hne e.symm)
  have sameT : ∀ b, T b → w'.heap[b]? = w.heap[b]? := fun b hb => h3.block b (hT b hb).2 (fun e => (hT b hb).1 (hown1 b e.symm))
  have hv' : ∀ b, v'.ownBlock = some b → v.ownBlock = some b ∨ b = w.heap.size := fun b hb => by
    rcases h4 with h4 | h4
    · exact .inl (h4 ▸ hb)
    · rw [h4] at hb; exact .inr (Option.some.inj hb).symm
  refine h v' w' ⟨ess ++ [news], fun j b => if j < xs.length then Sf j b else j = xs.length ∧ T b, by simp [hl], fun j h5 h6 => ?_, fun j b hb => ?_, fun j k b hj hk => ?_, fun r hr => ?_, ?_⟩ h3 (fun r e => own_block ho2 e)
  · rw [List.length_append, List.length_singleton] at h5
    by_cases hj : j < xs.length
    · rw [List.getElem_append_left hj, List.getElem_append_left (by omega)]
      have h7 := EP.frame (hre j hj (by omega)) (fun b hb => sameF b (hS j b hb).1 (hS j b hb).2)
      exact EP.mono h7 fun b hb => by simp only [hj, if_true]; exact hb
    · have : j = xs.length := by omega
      subst this
      simp only [List.getElem_append_right (Nat.le_refl _), ← hl, Nat.sub_self, List.getElem_singleton]
      simp only [hl]
      have e1 : (xs ++ [y])[xs.length]'(by simp) = y := by simp
      rw [e1]
      exact EP.mono (EP.frame hy sameT) fun b hb => by simp; exact hb
  · by_cases hj : j < xs.length
    · simp only [hj, if_true] at hb
      refine ⟨.inl (hS j b hb).1, fun e => ?_⟩
      rcases hv' b e with e | e
      · exact (hS j b hb).2 e
      · have := hF b (hS j b hb).1; omega
    · simp only [hj, if_false] at hb
      refine ⟨.inr (.inl hb.2), fun e => ?_⟩
      rcases hv' b e with e | e
      · exact (hT b hb.2).1 (hown1 b e)
      · have := (hT b hb.2).2; omega
  · by_cases h5 : j < xs.length <;> by_cases h6 : k < xs.length <;> simp only [h5, h6, if_true, if_false] at hj hk
    · exact hdis j k b hj hk
    · exact absurd (hS j b hj).1 (hT b hk.2).1
    · exact absurd (hS k b hk).1 (hT b hj.2).1
    · omega
  · exact .inr (.inr hr)
  · rw [List.length_append, List.length_singleton, List.flatten_append]
    simpa using h2
end

/-- between two marks -/
def Iv (lo hi : Nat) (b : Nat) : Prop := lo ≤ b ∧ b < hi
theorem OwnE.step {α : Type} {n : Nat} {P : ElemP α n} {w w' : World} {base lo : Nat} {tid : TypeId} {v : Value} {xs : List α} (h : OwnE P w (Iv lo w.heap.size) base tid v xs) (hb : Below w.heap.size w w') : OwnE P w' (Iv lo w'.heap.size) base tid v xs :=
  (h.next (fun b hb' => hb'.2) hb).mono fun b hb' => ⟨hb'.1, Nat.lt_of_lt_of_le hb'.2 hb.size⟩
section
variable {P : Program} {w : World}
theorem wp_pushI {α : Type} {n : Nat} {EP : ElemP α n} {o : Oper} {a : Act} {K : Act → World → Prop} {Q : Exit → Act → World → Prop} (s x : Operand) (t : TypeId)
    (ho : o.op = .call { callee := .builtin .append, args := #[s, x], argTypes := #[t, t] })
    (base lo : Nat) (tid : TypeId) (i : TypeInfo) (z : Value) (bytes : Nat) (ht : P.underlying t = some (.slice tid)) (hi : P.info? tid = some i) (hz : i.zero = some z)
    (hsize : i.size = n) (hby : i.bytes = bytes) (hzs : z.cells.size = n) (hsz : 0 < n)
    (v : Value) (xs : List α) (hs : a.eval s = v) (hown : OwnE EP w (Iv base lo) base tid v xs) (hlo : lo ≤ w.heap.size) (hbl : base ≤ lo)
    (A : Option Addr) (c : Nat) (news : List Value) (hx : a.eval x = .slice A 1 c) (hr : Rd w A news) (y : α) (hy : EP.E w (Iv lo w.heap.size) y news)
    (h63 : xs.length + 1 ≤ maxLen) (hbytes : (xs.length + 1) * bytes ≤ 140737488355328)
    (h : ∀ v' w', OwnE EP w' (Iv base w'.heap.size) base tid v' (xs ++ [y]) → w.grownBy w' v.ownBlock → (∀ r, v.ownBlock = some r → base ≤ r) → K (a.put o.dst v') w') : o.wp P a w K Q :=
  wp_pushE s x t ho base tid i z bytes ht hi hz hsize hby hzs hsz v xs _ (Iv lo w.heap.size) hs hown (fun b hb => Nat.lt_of_lt_of_le hb.2 hlo) A c news hx hr y hy (fun b hb => ⟨fun hf => by have h1 := hf.2; have h2 := hb.1; omega, hb.2⟩) h63 hbytes (Nat.le_trans hbl hlo) fun v' w' h1 h2 h3 =>
    h v' w' (h1.mono fun b hb => by
      have hs := h2.size
      rcases hb with hb | hb | hb
      · exact ⟨hb.1, by have := hb.2; omega⟩
      · exact ⟨by have := hb.1; omega, by have := hb.2; omega⟩
      · exact ⟨h1.base_le b hb, h1.lt b hb⟩) h2 h3
theorem wpList_pushI {α : Type} {n : Nat} {EP : ElemP α n} {ops : Array Oper} {rest : List Oper} {o : Oper} {a : Act} {Q : Exit → Act → World → Prop} (hgd : o.guard = none) (s x : Operand) (t : TypeId)
    (ho : o.op = .call { callee := .builtin .append, args := #[s, x], argTypes := #[t, t] })
    (base lo : Nat) (tid : TypeId) (i : TypeInfo) (z : Value) (bytes : Nat) (ht : P.underlying t = some (.slice tid)) (hi : P.info? tid = some i) (hz : i.zero = some z)
    (hsize : i.size = n) (hby : i.bytes = bytes) (hzs : z.cells.size = n) (hsz : 0 < n)
    (v : Value) (xs : List α) (hs : a.eval s = v) (hown : OwnE EP w (Iv base lo) base tid v xs) (hlo : lo ≤ w.heap.size) (hbl : base ≤ lo)
    (A : Option Addr) (c : Nat) (news : List Value) (hx : a.eval x = .slice A 1 c) (hr : Rd w A news) (y : α) (hy : EP.E w (Iv lo w.heap.size) y news)
    (h63 : xs.length + 1 ≤ maxLen) (hbytes : (xs.length + 1) * bytes ≤ 140737488355328)
    (h : ∀ v' w', OwnE EP w' (Iv base w'.heap.size) base tid v' (xs ++ [y]) → w.grownBy w' v.ownBlock → (∀ r, v.ownBlock = some r → base ≤ r) → wpList P ops Q rest (a.put o.dst v') w') : wpList P ops Q (o :: rest) a w :=
  wpList_plain hgd fun _ hK => wp_pushI s x t ho base lo tid i z bytes ht hi hz hsize hby hzs hsz v xs hs hown hlo hbl A c news hx hr y hy h63 hbytes fun v' w' h2 h3 h4 => hK _ _ (h v' w' h2 h3 h4)
end

/-! ### the elements of plain arrays -/
theorem RdIn.frame {w w' : World} {S : Nat → Prop} {t : Ty} {x : t.T} {cs : List Value} (h : RdIn w S t x cs) (hf : ∀ b, S b → w'.heap[b]? = w.heap[b]?) : RdIn w' S t x cs :=
  h.keep (fun p v hs hv => ⟨by rw [World.cell?_of_block (w := w) (a := p) (hf _ hs)]; exact hv, hs⟩) (fun _ h => h)
def bytesE : ElemP (List UInt8) 1 where
  E w S bs es := ∃ u, es = [u] ∧ RdIn w (fun b => S b ∧ Live w b) (.sl .byte) bs [u]
  frame := by
    rintro w w' S x es ⟨u, rfl, h⟩ hf
    refine ⟨u, rfl, (h.frame fun b hb => hf b hb.1).mono fun b hb => ⟨hb.1, ?_⟩⟩
    obtain ⟨cs, t, h1⟩ := hb.2
    exact ⟨cs, t, by rw [hf b hb.1]; exact h1⟩
  mono := by
    rintro w S S' x es ⟨u, rfl, h⟩ hS
    exact ⟨u, rfl, h.mono fun b hb => ⟨hS b hb.1, hb.2⟩⟩
  len := by rintro w S x es ⟨u, rfl, h⟩; rfl
  plain := by
    rintro w S x es ⟨u, rfl, h⟩ v hv
    obtain ⟨A, c, rfl, _⟩ := h.bytes
    simp at hv; subst hv; rfl
def listE (tid : TypeId) : ElemP (List (List UInt8)) 1 where
  E w S zs es := ∃ u base, es = [u] ∧ OwnE bytesE w S base tid u zs ∧ zs.length * 24 ≤ 140737488355328
  frame := by
    rintro w w' S x es ⟨u, base, rfl, h, hz⟩ hf
    exact ⟨u, base, rfl, h.frame hf, hz⟩
  mono := by
    rintro w S S' x es ⟨u, base, rfl, h, hz⟩ hS
    exact ⟨u, base, rfl, h.mono hS, hz⟩
  len := by rintro w S x es ⟨u, base, rfl, h, hz⟩; rfl
  plain := by
    rintro w S x es ⟨u, base, rfl, h, hz⟩ v hv
    obtain ⟨A, c, rfl⟩ := h.slice
    simp at hv; subst hv; rfl
/-- a list of numbers of one's own (one with none may lie anywhere) -/
def MarksO (w : World) (S : Nat → Prop) (tid : TypeId) (u : Value) (ms : List Int) : Prop :=
  (ms = [] ∧ ∃ A c, u = .slice A 0 c ∧ c ≤ maxLen) ∨ ∃ g cap cur, u = .slice (some ⟨g, 0, none⟩) ms.length cap ∧ S g ∧ w.heap[g]? = some (.cells cur tid (0, 0)) ∧ ms.length ≤ cap ∧ cap ≤ maxLen ∧ cur.size = cap ∧ cur.toList.take ms.length = ms.map (fun x => Value.int .i64 x)
def goE (tid : TypeId) : ElemP GoTy.T 6 where
  E w S g es := ∃ (nu : Int) (ki : UInt8) (at' many : Int) (bs : List UInt8) (ms : List Int) (vd vm : Value), g = (nu, (ki, at', many, bs, ()), ms, ()) ∧ es = [.int .i64 nu, .int .u8 (ki.toNat : Int), .int .i64 at', .int .i64 many, vd, vm] ∧ (IsInt nu ∧ IsInt at' ∧ IsInt many) ∧ (∀ x ∈ ms, IsInt x) ∧ ms.length * 8 ≤ 140737488355328 ∧
    RdIn w (fun b => (S b ∧ Live w b) ∧ (ms = [] ∨ vm.ownBlock ≠ some b)) (.sl .byte) bs [vd] ∧ MarksO w S tid vm ms
  frame := by
    rintro w w' S x es ⟨nu, ki, at', many, bs, ms, vd, vm, rfl, rfl, h1, h2, h2', h3, h4⟩ hf
    have h6 : RdIn w' (fun b => (S b ∧ Live w' b) ∧ (ms = [] ∨ vm.ownBlock ≠ some b)) (.sl .byte) bs [vd] := (h3.frame fun b hb => hf b hb.1.1).mono fun b hb => by
      obtain ⟨cs, t, h5⟩ := hb.1.2
      exact ⟨⟨hb.1.1, cs, t, by rw [hf b hb.1.1]; exact h5⟩, hb.2⟩
    refine ⟨nu, ki, at', many, bs, ms, vd, vm, rfl, rfl, h1, h2, h2', h6, ?_⟩
    · rcases h4 with h4 | ⟨g, cap, cur, e, hg, hh, hr⟩
      · exact .inl h4
      · exact .inr ⟨g, cap, cur, e, hg, by rw [hf g hg]; exact hh, hr⟩
  mono := by
    rintro w S S' x es ⟨nu, ki, at', many, bs, ms, vd, vm, rfl, rfl, h1, h2, h2', h3, h4⟩ hS
    refine ⟨nu, ki, at', many, bs, ms, vd, vm, rfl, rfl, h1, h2, h2', h3.mono fun b hb => ⟨⟨hS b hb.1.1, hb.1.2⟩, hb.2⟩, ?_⟩
    rcases h4 with h4 | ⟨g, cap, cur, e, hg, hr⟩
    · exact .inl h4
    · exact .inr ⟨g, cap, cur, e, hS g hg, hr⟩
  len := by rintro w S x es ⟨nu, ki, at', many, bs, ms, vd, vm, rfl, rfl, _⟩; rfl
  plain := by
    rintro w S x es ⟨nu, ki, at', many, bs, ms, vd, vm, rfl, rfl, h1, h2, h2', h3, h4⟩ v hv
    obtain ⟨A, c, rfl, _⟩ := h3.bytes
    obtain ⟨B, d, e⟩ : ∃ B k d, vm = .slice B k d := by
      rcases h4 with ⟨_, A, c, rfl, _⟩ | ⟨g, cap, cur, rfl, _⟩
      · exact ⟨_, _, _, rfl⟩
      · exact ⟨_, _, _, rfl⟩
    obtain ⟨d, rfl⟩ := e
    simp only [List.mem_cons, List.not_mem_nil, or_false] at hv
    rcases hv with rfl | rfl | rfl | rfl | rfl | rfl <;> rfl
/-! ### such lists read -/
theorem OwnE.rdin {e : Ty} {P : ElemP e.T e.size} {w : World} {F : Nat → Prop} {base : Nat} {tid : TypeId} {v : Value} {xs : List e.T} (h : OwnE P w F base tid v xs) (hP : ∀ (S : Nat → Prop) (x : e.T) (es : List Value), P.E w S x es → RdIn w (fun b => S b ∧ Live w b) e x es) (hz : xs.length * e.bytes ≤ 140737488355328) : RdIn w (fun b => F b ∧ Live w b) (.sl e) xs [v] := by
  obtain ⟨ess, Sf, hl, hr, hS, _, hF, ho⟩ := h
  have hes : ∀ es ∈ ess, es.length = e.size := by
    intro es he
    obtain ⟨i, hi, rfl⟩ := List.getElem_of_mem he
    exact P.len (hr i (by omega) hi)
  rcases ho.2 with ⟨rfl, h0⟩ | ⟨g, cap, cur, rfl, hb, hg, hn, hm, hsz, htk⟩
  · have hx : xs = [] := List.eq_nil_of_length_eq_zero h0
    subst hx
    exact rdin_sl.2 ⟨none, 0, rfl, by simp, by simp [maxLen], by simp, .inl rfl⟩
  · refine rdin_sl.2 ⟨some ⟨g, 0, none⟩, cap, rfl, hn, hm, hz, .inr ⟨g, 0, rfl, ⟨hF g rfl, _, _, hg⟩, fun i hi => ⟨ess[i]'(by omega), fun j hj => ?_, (hP _ _ _ (hr i hi (by omega))).mono fun b hb => ⟨(hS i b hb.1).1, hb.2⟩⟩⟩⟩
    have h1 := flatten_at ess hes i j hj
    rw [List.getElem?_eq_getElem (show i < ess.length by omega)] at h1
    show w.cell? ⟨g, 0 + i * e.size + j, none⟩ = _
    rw [Nat.zero_add, cell_of_row w g _ cur tid (0, 0) hg]
    have h2 : i * e.size + j < xs.length * e.size := by
      have : (i + 1) * e.size ≤ xs.length * e.size := Nat.mul_le_mul_right _ (by omega)
      rw [Nat.add_mul] at this
      omega
    rw [← htk, List.getElem?_take, if_pos h2] at h1
    simpa using h1
theorem bytesE_rd {w : World} (S : Nat → Prop) (x : (Ty.sl .byte).T) (es : List Value) (h : bytesE.E w S x es) : RdIn w (fun b => S b ∧ Live w b) (.sl .byte) x es := by
  obtain ⟨u, rfl, h⟩ := h
  exact h
theorem listE_rd {w : World} (tid : TypeId) (S : Nat → Prop) (x : (Ty.sl (.sl .byte)).T) (es : List Value) (h : (listE tid).E w S x es) : RdIn w (fun b => S b ∧ Live w b) (.sl (.sl .byte)) x es := by
  obtain ⟨u, base, rfl, h, hz⟩ := h
  exact OwnE.rdin (e := .sl .byte) (P := bytesE) h bytesE_rd hz
theorem MarksO.rd {w : World} {S : Nat → Prop} {tid : TypeId} {u : Value} {ms : List Int} (h : MarksO w S tid u ms) (hi : ∀ x ∈ ms, IsInt x) (hz : ms.length * 8 ≤ 140737488355328) : RdIn w (fun b => S b ∧ Live w b) (.sl .int) ms [u] := by
  rcases h with ⟨rfl, A, c, rfl, hc⟩ | ⟨g, cap, cur, rfl, hg, hh, h1, h2, h3, h4⟩
  · exact rdin_sl.2 ⟨A, c, rfl, Nat.zero_le c, hc, (show ([] : List Int).length * 8 ≤ 140737488355328 by decide), .inl rfl⟩
  · refine rdin_sl.2 ⟨some ⟨g, 0, none⟩, cap, rfl, h1, h2, hz, .inr ⟨g, 0, rfl, ⟨hg, _, _, hh⟩, fun i hi' => ⟨[.int .i64 (ms[i]'hi')], fun j hj => ?_, rdin_int.2 ⟨rfl, hi _ (List.getElem_mem hi')⟩⟩⟩⟩
    have hj0 : j = 0 := by have : j < 1 := hj; omega
    subst hj0
    have hi2 : i < ms.length := hi'
    show w.cell? ⟨g, 0 + i * 1 + 0, none⟩ = _
    rw [Nat.zero_add, Nat.mul_one, Nat.add_zero, cell_of_row w g _ cur tid (0, 0) hh]
    have h5 : (ms.map (fun x => Value.int .i64 x))[i]? = some (.int .i64 ms[i]) := by simp [hi2]
    rw [← h4, List.getElem?_take, if_pos hi2] at h5
    simp at h5
    exact h5
theorem goE_rd {w : World} (tid : TypeId) (S : Nat → Prop) (x : GoTy.T) (es : List Value) (h : (goE tid).E w S x es) : RdIn w (fun b => S b ∧ Live w b) GoTy x es := by
  obtain ⟨nu, ki, at', many, bs, ms, vd, vm, rfl, rfl, ⟨i0, i1, i2⟩, h2, h2', h3, h4⟩ := h
  exact going_mk i0 i1 i2 (h3.mono fun b hb => hb.1) (h4.rd h2 h2')
theorem OwnE.may_rd {w : World} {F : Nat → Prop} {base : Nat} {t1 t2 : TypeId} {v : Value} {ys : List (List (List UInt8))} (h : OwnE (listE t1) w F base t2 v ys) (hz : ys.length * 24 ≤ 140737488355328) : RdIn w (fun b => F b ∧ Live w b) (.sl (.sl (.sl .byte))) ys [v] :=
  OwnE.rdin (e := .sl (.sl .byte)) (P := listE t1) h (listE_rd t1) hz
theorem OwnE.go_rd {w : World} {F : Nat → Prop} {base : Nat} {t1 t2 : TypeId} {v : Value} {gs : List GoTy.T} (h : OwnE (goE t1) w F base t2 v gs) (hz : gs.length * 80 ≤ 140737488355328) : RdIn w (fun b => F b ∧ Live w b) (.sl GoTy) gs [v] :=
  OwnE.rdin (e := GoTy) (P := goE t1) h (goE_rd t1) hz
end Go.Proofs.Ytclbihcggjjgaaa
/- Layer 30 (model): the statements' own 'turn': numbers are written in new memory. -/
namespace Go.Proofs.Ytclbihcggjjgaaa
open Go Go.RowKit
set_option linter.unusedSimpArgs false
set_option linter.unusedVariables false

/-- what a call changes lies between two marks, or is new -/
structure Within (lo hi : Nat) (w w' : World) : Prop where
  below : Below lo w w'
  above : ∀ b, hi ≤ b → b < w.heap.size → w'.heap[b]? = w.heap[b]?
theorem Within.refl (lo hi : Nat) (w : World) : Within lo hi w w := ⟨Below.refl _ _, fun _ _ _ => rfl⟩
theorem Within.alloc {lo hi : Nat} {w w' : World} (h : Within lo hi w w') (hl : lo ≤ w.heap.size) (o : Obj) : Within lo hi w (w'.alloc o) :=
  ⟨h.below.alloc (Nat.le_trans hl h.below.size) o, fun b h1 h2 => (Below.heap_alloc w' o b (Nat.lt_of_lt_of_le h2 h.below.size)).trans (h.above b h1 h2)⟩
theorem Within.setCell {lo hi : Nat} {w w' : World} (h : Within lo hi w w') {p : Addr} (hp : lo ≤ p.block ∧ p.block < hi) (u : Value) : Within lo hi w (w'.setCell p u) :=
  ⟨h.below.setCell hp.1 u, fun b h1 h2 => (Below.heap_setCell w' p u b (by have := hp.2; omega)).trans (h.above b h1 h2)⟩
theorem Within.drew {lo hi : Nat} {w w' : World} (h : Within lo hi w w') : Within lo hi w w'.drew := ⟨h.below.drew, h.above⟩
theorem Within.cell {lo hi : Nat} {w w' : World} (h : Within lo hi w w') {p : Addr} (hp : p.block < lo ∨ hi ≤ p.block) (hl : p.block < w.heap.size) : w'.cell? p = w.cell? p :=
  World.cell?_of_block (w := w) (hp.elim (fun h1 => h.below.block _ h1) (fun h1 => h.above _ h1 hl))
def InL (w : World) (lo hi : Nat) (b : Nat) : Prop := (lo ≤ b ∧ b < hi) ∧ Live w b
def ShpL (w : World) (lo hi : Nat) (t : Ty) (cs : List Value) : Prop := ∃ x : t.T, RdIn w (InL w lo hi) t x cs
theorem ShpL.below {w w' : World} {lo hi : Nat} {t : Ty} {cs : List Value} (h : ShpL w lo hi t cs) (hb : Below w.heap.size w w') : ShpL w' lo hi t cs := by
  obtain ⟨x, hx⟩ := h
  exact ⟨x, (hx.below hb).mono fun b h => ⟨h.1, h.2.below hb⟩⟩
theorem box_ne {w : World} {g b o : Nat} {A B : Option Addr} {n c m d : Nat} {t : TypeId} {k : IntKind} {x : Int} (P : BoxOf w g #[.slice A n c, .slice B m d] t) (hx : w.cell? ⟨b, o, none⟩ = some (.int k x)) : g ≠ b := by
  rintro rfl
  rw [P.cell] at hx
  rcases o with _ | _ | o
  · cases hx
  · cases hx
  · simp at hx
end Go.Proofs.Ytclbihcggjjgaaa
/- Layer 30 (model): plain arrays are read: rows, and whether one is great. -/
namespace Go.Proofs.Ytclbihcggjjgaaa
open Go Go.RowKit
set_option linter.unusedSimpArgs false
set_option linter.unusedVariables false

def nuOf (g : GoTy.T) : Int := (show Int × (UInt8 × Int × Int × List UInt8 × Unit) × List Int × Unit from g).1
def kiOf (g : GoTy.T) : UInt8 := (show Int × (UInt8 × Int × Int × List UInt8 × Unit) × List Int × Unit from g).2.1.1
def atOf (g : GoTy.T) : Int := (show Int × (UInt8 × Int × Int × List UInt8 × Unit) × List Int × Unit from g).2.1.2.1
def manyOf (g : GoTy.T) : Int := (show Int × (UInt8 × Int × Int × List UInt8 × Unit) × List Int × Unit from g).2.1.2.2.1
def datOf (g : GoTy.T) : List UInt8 := (show Int × (UInt8 × Int × Int × List UInt8 × Unit) × List Int × Unit from g).2.1.2.2.2.1
def mksOf (g : GoTy.T) : List Int := (show Int × (UInt8 × Int × Int × List UInt8 × Unit) × List Int × Unit from g).2.2.1
section
variable {w : World} {S : Nat → Prop}
theorem may_at {ys : List (List (List UInt8))} {A : Option Addr} {c : Nat} (h : RdIn w S (.sl (.sl (.sl .byte))) ys [.slice A ys.length c]) {k : Nat} (hk : k < ys.length) :
    ∃ b off A2 c2, A = some ⟨b, off, none⟩ ∧ w.cell? ⟨b, off + k, none⟩ = some (.slice A2 (ys[k]'hk).length c2) ∧ RdIn w S (.sl (.sl .byte)) (ys[k]'hk) [.slice A2 (ys[k]'hk).length c2] := by
  obtain ⟨A1, c1, e1, _, _, hr1⟩ := view3 h
  injection e1 with e11 e12 e13
  obtain ⟨b, off, e2, _, hrow⟩ := hr1 (by omega)
  obtain ⟨A2, c2, q2, r2⟩ := hrow k hk
  exact ⟨b, off, A2, c2, e11.trans e2, q2, r2⟩
theorem val_at {ys : List (List UInt8)} {A : Option Addr} {c : Nat} (h : RdIn w S (.sl (.sl .byte)) ys [.slice A ys.length c]) {k : Nat} (hk : k < ys.length) :
    ∃ b off A2 c2, A = some ⟨b, off, none⟩ ∧ w.cell? ⟨b, off + k, none⟩ = some (.slice A2 (ys[k]'hk).length c2) ∧ RdIn w S (.sl .byte) (ys[k]'hk) [.slice A2 (ys[k]'hk).length c2] := by
  obtain ⟨A1, c1, e1, _, _, hr1⟩ := view2 h
  injection e1 with e11 e12 e13
  obtain ⟨b, off, e2, _, hrow⟩ := hr1 (by omega)
  obtain ⟨A2, c2, q2, r2⟩ := hrow k hk
  exact ⟨b, off, A2, c2, e11.trans e2, q2, r2⟩
theorem go_at {gs : List GoTy.T} {B : Option Addr} {d : Nat} (h : RdIn w S (.sl GoTy) gs [.slice B gs.length d]) {j : Nat} (hj : j < gs.length) :
    ∃ b off Ab cb Am cm, B = some ⟨b, off, none⟩ ∧ w.cell? ⟨b, off + j * 6, none⟩ = some (.int .i64 (nuOf (gs[j]'hj))) ∧ w.cell? ⟨b, off + j * 6 + 1, none⟩ = some (.int .u8 ((kiOf (gs[j]'hj)).toNat : Int)) ∧ w.cell? ⟨b, off + j * 6 + 2, none⟩ = some (.int .i64 (atOf (gs[j]'hj))) ∧ w.cell? ⟨b, off + j * 6 + 3, none⟩ = some (.int .i64 (manyOf (gs[j]'hj))) ∧ w.cell? ⟨b, off + j * 6 + 4, none⟩ = some (.slice Ab (datOf (gs[j]'hj)).length cb) ∧ w.cell? ⟨b, off + j * 6 + 5, none⟩ = some (.slice Am (mksOf (gs[j]'hj)).length cm) ∧
      IsInt (nuOf (gs[j]'hj)) ∧ IsInt (atOf (gs[j]'hj)) ∧ IsInt (manyOf (gs[j]'hj)) ∧ RdIn w S (.sl .byte) (datOf (gs[j]'hj)) [.slice Ab (datOf (gs[j]'hj)).length cb] ∧ RdIn w S (.sl .int) (mksOf (gs[j]'hj)) [.slice Am (mksOf (gs[j]'hj)).length cm] := by
  obtain ⟨A1, c1, e1, _, _, hr1⟩ := viewG h
  injection e1 with e11 e12 e13
  obtain ⟨b, off, e2, _, hrow⟩ := hr1 (by omega)
  obtain ⟨es, hc, rg⟩ := hrow j hj
  obtain ⟨nu, ki, at', many, bs, vd, ms, vm, eg, rfl, i0, i1, i2, Rb, Rm⟩ := going_view rg
  obtain ⟨Ab, cb, e3, _⟩ := rdin_sl.1 Rb
  obtain ⟨Am, cm, e4, _⟩ := rdin_sl.1 Rm
  obtain rfl := (List.cons.inj e3).1
  obtain rfl := (List.cons.inj e4).1
  rw [eg]
  exact ⟨b, off, Ab, cb, Am, cm, e11.trans e2, hc 0 (by decide), hc 1 (by decide), hc 2 (by decide), hc 3 (by decide), hc 4 (by decide), hc 5 (by decide), i0, i1, i2, Rb, Rm⟩
theorem mark_at {ms : List Int} {A : Option Addr} {c : Nat} (h : RdIn w S (.sl .int) ms [.slice A ms.length c]) {k : Nat} (hk : k < ms.length) :
    ∃ b off, A = some ⟨b, off, none⟩ ∧ w.cell? ⟨b, off + k, none⟩ = some (.int .i64 (ms[k]'hk)) ∧ IsInt (ms[k]'hk) := by
  obtain ⟨A1, c1, e1, _, _, _, hh⟩ := rdin_sl.1 h
  injection e1 with e1 _
  injection e1 with e11 e12 e13
  rcases hh with hh | ⟨b, off, e2, _, hc⟩
  · rw [hh] at hk; exact absurd hk (Nat.not_lt_zero _)
  · obtain ⟨es, hce, hre⟩ := hc k hk
    have h0 := hce 0 (by decide)
    rw [(rdin_int.1 hre).1] at h0
    have e9 : off + k * Ty.size .int + 0 = off + k := by show off + k * 1 + 0 = _; omega
    rw [e9] at h0
    exact ⟨b, off, e11.trans e2, h0, (rdin_int.1 hre).2⟩
theorem may_max {ys : List (List (List UInt8))} {v : Value} (h : RdIn w S (.sl (.sl (.sl .byte))) ys [v]) : ys.length ≤ maxLen := by
  obtain ⟨_, _, _, h1, _⟩ := view3 h
  exact h1
theorem val_max {ys : List (List UInt8)} {v : Value} (h : RdIn w S (.sl (.sl .byte)) ys [v]) : ys.length ≤ maxLen := by
  obtain ⟨_, _, _, h1, _⟩ := view2 h
  exact h1
theorem go_max {gs : List GoTy.T} {v : Value} (h : RdIn w S (.sl GoTy) gs [v]) : gs.length ≤ maxLen := by
  obtain ⟨_, _, _, h1, _⟩ := viewG h
  exact h1
theorem mark_max {ms : List Int} {v : Value} (h : RdIn w S (.sl .int) ms [v]) : ms.length ≤ maxLen := by
  obtain ⟨_, _, _, h1, h2, _⟩ := rdin_sl.1 h
  exact Nat.le_trans h1 h2
theorem byte_max {bs : List UInt8} {v : Value} (h : RdIn w S (.sl .byte) bs [v]) : bs.length ≤ maxLen := by
  obtain ⟨_, _, _, h1, h2, _⟩ := rdin_sl.1 h
  exact Nat.le_trans h1 h2
end
theorem next_wrap {j n : Nat} (h : n ≤ maxLen) (hj : j < n) : Hid (wrap64 ((j : Int) + 1) = ((j + 1 : Nat) : Int)) := by
  show _ = _
  rw [IntWalk.wrap64_in _ (by unfold maxLen at h; omega)]
  omega

end Go.Proofs.Ytclbihcggjjgaaa
/- Layer 6 (shape): what its functions compute. -/
namespace Go.Proofs.Ytclbihcggjjgaaa
open Go.RowKit

/-- A config, as plain data. -/
structure Cfg where
  id : Nat
  m : Int
  c : Int
  r : Int
  l : Int
  h : Int
def Cfg.val (x : Cfg) : Value := .agg #[.int .u32 (x.id : Int), .int .i64 x.m, .int .i64 x.c, .int .i64 x.r, .int .i64 x.l, .int .i64 x.h]
/-- the first four bounds -/
def Cfg.Plain (x : Cfg) : Prop := 3 ≤ x.m ∧ x.m ≤ 16 ∧ 1 ≤ x.c ∧ x.c ≤ 8 ∧ 1 ≤ x.r ∧ x.r ≤ 8 ∧ 2 ≤ x.h ∧ x.h ≤ 8
/-- a config that may be -/
def Cfg.Ok (x : Cfg) : Prop := x.Plain ∧ (x.m + 1) * (x.h + 1) ≤ x.l ∧ x.l ≤ 255
instance (x : Cfg) : Decidable x.Plain := by unfold Cfg.Plain; infer_instance
instance (x : Cfg) : Decidable x.Ok := by unfold Cfg.Ok; infer_instance
def Cfg.code (x : Cfg) : Int := if x.Ok then 0 else 8
theorem Cfg.code_ok {x : Cfg} (h : x.Ok) : x.code = 0 := if_pos h
theorem Cfg.code_bad {x : Cfg} (h : ¬ x.Ok) : x.code = 8 := if_neg h

/-- rows of three numbers -/
def rowOk (r : Int × Int × Int) : Bool := decide (r.2.1 ≤ r.1) && decide (r.1 ≤ r.2.2)
theorem bounds_any (g c : Nat) (rows : List (Int × Int × Int)) (w : World) (hn : rows.length ≤ 100)
    (hc : ∀ i (hi : i < rows.length), w.cell? ⟨g, i * 3, none⟩ = some (.int .i64 rows[i].1) ∧ w.cell? ⟨g, i * 3 + 1, none⟩ = some (.int .i64 rows[i].2.1) ∧ w.cell? ⟨g, i * 3 + 2, none⟩ = some (.int .i64 rows[i].2.2)) :
    Calls Try.prog 90 #[.slice (some ⟨g, 0, none⟩) rows.length c] w fun e w' => e = .returned (.bool (rows.all rowOk)) ∧ Below w.heap.size w w' := by
  have HC := Lib.hid hc
  clear hc
  go_enter Try.func90, Try.ntmps90
  go_wp2
  go_loopw [7] (fun i wr => ∃ k : Nat, k ≤ rows.length ∧ i = .int .i64 k ∧ (rows.take k).all rowOk = true ∧ Below w.heap.size w wr) (fun i _ => rows.length - (intOf i).toNat)
  case atStart => exact ⟨0, by omega, rfl, rfl, Below.refl _ _⟩
  case round =>
    obtain ⟨k, hk, rfl, hall, hb⟩ := hrel
    by_cases hlt : k < rows.length
    · have hall' : (rows.take (k + 1)).all rowOk = rowOk rows[k] := by
        rw [List.take_succ_eq_append_getElem hlt, List.all_append, hall]
        simp
      have hno : rowOk rows[k] = false → rows.all rowOk = false := by
        intro h
        rw [List.all_eq_false]
        exact ⟨rows[k], List.getElem_mem hlt, by simp [h]⟩
      have hrk : rowOk rows[k] = (decide (rows[k].2.1 ≤ rows[k].1) && decide (rows[k].1 ≤ rows[k].2.2)) := rfl
      rw [hrk] at hall' hno
      clear hrk
      have HA := Lib.hid hall'
      have HN := Lib.hid hno
      clear hall' hno hall
      obtain ⟨p0, p1, p2⟩ := HC.out k hlt
      have q0 := (hb.cell (p := _) (block_lt_of_cell p0)).trans p0
      have q1 := (hb.cell (p := _) (block_lt_of_cell p1)).trans p1
      have q2 := (hb.cell (p := _) (block_lt_of_cell p2)).trans p2
      clear p0 p1 p2
      generalize rows[k].1 = a at q0 HA HN
      generalize rows[k].2.1 = lo at q1 HA HN
      generalize rows[k].2.2 = hi at q2 HA HN
      go_wp2
      · go_ret
        refine ⟨?_, Ext.alloc hb _⟩
        rw [HN.out (by simp; omega)]
        rfl
      · go_roundw
        case rel => exact ⟨k + 1, by omega, by go_num, by rw [HA.out]; simp; omega, Ext.alloc hb _⟩
        case measure => simp [intOf]; omega
      · go_ret
        refine ⟨?_, Ext.alloc hb _⟩
        rw [HN.out (by simp; omega)]
        rfl
    · have hk' : k = rows.length := by omega
      have hfin : rows.all rowOk = true := by rw [hk', List.take_length] at hall; exact hall
      have HF := Lib.hid hfin
      clear hfin hall hk'
      go_wp2
      go_ret
      exact ⟨by rw [HF.out]; rfl, hb⟩

/-- one row in a new block -/
theorem row1_new (w : World) (g : Nat) (hg : g = w.heap.size) (a lo hi : Int) (t : TypeId) : ∀ i (h : i < [(a, lo, hi)].length), (w.alloc (.cells #[.int .i64 a, .int .i64 lo, .int .i64 hi] t)).cell? ⟨g, i * 3, none⟩ = some (.int .i64 [(a, lo, hi)][i].1) ∧
    (w.alloc (.cells #[.int .i64 a, .int .i64 lo, .int .i64 hi] t)).cell? ⟨g, i * 3 + 1, none⟩ = some (.int .i64 [(a, lo, hi)][i].2.1) ∧
    (w.alloc (.cells #[.int .i64 a, .int .i64 lo, .int .i64 hi] t)).cell? ⟨g, i * 3 + 2, none⟩ = some (.int .i64 [(a, lo, hi)][i].2.2) := by
  intro i h
  subst hg
  have : i = 0 := by simpa using h
  subst this
  refine ⟨?_, ?_, ?_⟩ <;> rw [World.cell?_alloc_mark] <;> rfl
theorem row4_new (w : World) (g : Nat) (hg : g = w.heap.size) (a b c d : Int) (t : TypeId) : ∀ i (h : i < [(a, (3 : Int), (16 : Int)), (b, 1, 8), (c, 1, 8), (d, 2, 8)].length),
    (w.alloc (.cells #[.int .i64 a, .int .i64 3, .int .i64 16, .int .i64 b, .int .i64 1, .int .i64 8, .int .i64 c, .int .i64 1, .int .i64 8, .int .i64 d, .int .i64 2, .int .i64 8] t)).cell? ⟨g, i * 3, none⟩ = some (.int .i64 [(a, (3 : Int), (16 : Int)), (b, 1, 8), (c, 1, 8), (d, 2, 8)][i].1) ∧
    (w.alloc (.cells #[.int .i64 a, .int .i64 3, .int .i64 16, .int .i64 b, .int .i64 1, .int .i64 8, .int .i64 c, .int .i64 1, .int .i64 8, .int .i64 d, .int .i64 2, .int .i64 8] t)).cell? ⟨g, i * 3 + 1, none⟩ = some (.int .i64 [(a, (3 : Int), (16 : Int)), (b, 1, 8), (c, 1, 8), (d, 2, 8)][i].2.1) ∧
    (w.alloc (.cells #[.int .i64 a, .int .i64 3, .int .i64 16, .int .i64 b, .int .i64 1, .int .i64 8, .int .i64 c, .int .i64 1, .int .i64 8, .int .i64 d, .int .i64 2, .int .i64 8] t)).cell? ⟨g, i * 3 + 2, none⟩ = some (.int .i64 [(a, (3 : Int), (16 : Int)), (b, 1, 8), (c, 1, 8), (d, 2, 8)][i].2.2) := by
  intro i h
  subst hg
  have : i < 4 := by simpa using h
  rcases i with _ | _ | _ | _ | i
  · refine ⟨?_, ?_, ?_⟩ <;> rw [World.cell?_alloc_mark] <;> rfl
  · refine ⟨?_, ?_, ?_⟩ <;> rw [World.cell?_alloc_mark] <;> rfl
  · refine ⟨?_, ?_, ?_⟩ <;> rw [World.cell?_alloc_mark] <;> rfl
  · refine ⟨?_, ?_, ?_⟩ <;> rw [World.cell?_alloc_mark] <;> rfl
  · omega

theorem check_any (x : Cfg) (w : World) : Calls Try.prog 86 #[x.val] w fun e w' => e = .returned (.int .i64 x.code) ∧ Below w.heap.size w w' := by
  have hall : [(x.m, (3 : Int), (16 : Int)), (x.c, 1, 8), (x.r, 1, 8), (x.h, 2, 8)].all rowOk = decide x.Plain := by
    rw [Bool.eq_iff_iff]
    simp only [rowOk, List.all_cons, List.all_nil, Bool.and_true, Bool.and_eq_true, decide_eq_true_eq, and_assoc]
    exact Iff.rfl
  obtain ⟨id, m, c, r, l, h⟩ := x
  unfold Cfg.val
  dsimp only at hall ⊢
  by_cases hpl : Cfg.Plain ⟨id, m, c, r, l, h⟩
  · rw [decide_eq_true hpl] at hall
    have hB := hpl
    unfold Cfg.Plain at hB
    dsimp only at hB
    obtain ⟨b1, b2, b3, b4, b5, b6, b7, b8⟩ := hB
    have hmul : (m + 1) * (h + 1) ≤ 153 := by
      have h1 : (m + 1) * (h + 1) ≤ 17 * (h + 1) := Int.mul_le_mul_of_nonneg_right (by omega) (by omega)
      omega
    have hmul0 : 0 ≤ (m + 1) * (h + 1) := Int.mul_nonneg (by omega) (by omega)
    have hone : [(l, (m + 1) * (h + 1), (255 : Int))].all rowOk = rowOk (l, (m + 1) * (h + 1), 255) := by simp
    have hcode : Hid ((Cfg.mk id m c r l h).code = if rowOk (l, (m + 1) * (h + 1), 255) then 0 else 8) := by
      show _ = _
      unfold Cfg.code Cfg.Ok
      simp only [hpl, true_and, rowOk, Bool.and_eq_true, decide_eq_true_eq]
    have HA := Lib.hid hall
    clear hall hpl
    generalize hz : rowOk (l, (m + 1) * (h + 1), 255) = z at hone hcode
    have H1 := Lib.hid hone
    clear hz hone
    go_enter Try.func86, Try.ntmps86
    go_wp2_with fail
    refine (bounds_any (w.heap.size + 1) 4 [(m, 3, 16), (c, 1, 8), (r, 1, 8), (h, 2, 8)] _ (by simp) (row4_new _ (w.heap.size + 1) (by simp) m c r h _)).mono ?_
    rw [HA.out]
    rintro e w1 ⟨rfl, k1⟩
    have s1 := k1.size
    simp at s1
    have k2 : Below w.heap.size w w1 := Ext.trans (Ext.alloc (Ext.alloc (Below.refl _ _) _) _) k1
    have c1 : w1.cell? ⟨w.heap.size, 1, none⟩ = some (.int .i64 m) := (k1.cell (p := ⟨w.heap.size, 1, none⟩) (by simp; omega)).trans (by simp)
    have c4 : w1.cell? ⟨w.heap.size, 4, none⟩ = some (.int .i64 l) := (k1.cell (p := ⟨w.heap.size, 4, none⟩) (by simp; omega)).trans (by simp)
    have c5 : w1.cell? ⟨w.heap.size, 5, none⟩ = some (.int .i64 h) := (k1.cell (p := ⟨w.heap.size, 5, none⟩) (by simp; omega)).trans (by simp)
    go_wp2_with fail
    refine (bounds_any w1.heap.size 1 [(l, (m + 1) * (h + 1), 255)] _ (by simp) (row1_new _ w1.heap.size rfl l _ _ _)).mono ?_
    rw [H1.out]
    rintro e w2 ⟨rfl, k3⟩
    cases z
    · go_wp2
      go_ret
      exact ⟨by rw [hcode.out]; rfl, Ext.trans (Ext.alloc k2 _) k3⟩
    · go_wp2
      go_ret
      exact ⟨by rw [hcode.out]; rfl, Ext.trans (Ext.alloc k2 _) k3⟩
  · rw [decide_eq_false hpl] at hall
    have hcode : Hid ((Cfg.mk id m c r l h).code = 8) := Cfg.code_bad fun h => hpl h.1
    have HA := Lib.hid hall
    clear hall hpl
    go_enter Try.func86, Try.ntmps86
    go_wp2_with fail
    refine (bounds_any (w.heap.size + 1) 4 [(m, 3, 16), (c, 1, 8), (r, 1, 8), (h, 2, 8)] _ (by simp) (row4_new _ (w.heap.size + 1) (by simp) m c r h _)).mono ?_
    rw [HA.out]
    rintro e w1 ⟨rfl, k1⟩
    go_wp2
    go_ret
    exact ⟨by rw [hcode.out]; rfl, Ext.trans (Ext.alloc (Ext.alloc (Below.refl _ _) _) _) k1⟩

theorem told_ok (x : Cfg) (hx : x.Ok) (n : Int) (w : World) : Calls Try.prog 75 #[x.val, .int .i64 n] w fun e w' => e = .returned (.tuple #[.int .i64 n, .int .i64 0]) ∧ Below w.heap.size w w' := by
  have hck := check_any x
  rw [Cfg.code_ok hx] at hck
  obtain ⟨id, m, c, r, l, h⟩ := x
  unfold Cfg.val at hck ⊢
  clear hx
  dsimp only at hck ⊢
  have HC := Lib.hid hck
  clear hck
  go_enter Try.func75, Try.ntmps75
  go_wp2_with fail
  refine (HC.out _).mono ?_
  rintro e w1 ⟨rfl, k1⟩
  go_wp2
  go_ret2
  exact ⟨rfl, Ext.trans (Ext.alloc (Below.refl _ _) _) k1⟩
theorem told_bad (x : Cfg) (hx : ¬ x.Ok) (n : Int) (w : World) : Calls Try.prog 75 #[x.val, .int .i64 n] w fun e w' => e = .returned (.tuple #[.int .i64 0, .int .i64 8]) ∧ Below w.heap.size w w' := by
  have hck := check_any x
  rw [Cfg.code_bad hx] at hck
  obtain ⟨id, m, c, r, l, h⟩ := x
  unfold Cfg.val at hck ⊢
  clear hx
  dsimp only at hck ⊢
  have HC := Lib.hid hck
  clear hck
  go_enter Try.func75, Try.ntmps75
  go_wp2_with fail
  refine (HC.out _).mono ?_
  rintro e w1 ⟨rfl, k1⟩
  go_wp2
  go_ret2
  exact ⟨rfl, Ext.trans (Ext.alloc (Below.refl _ _) _) k1⟩

theorem Cfg.bounds {x : Cfg} (h : x.Ok) : 3 ≤ x.m ∧ x.m ≤ 16 ∧ 1 ≤ x.c ∧ x.c ≤ 8 ∧ 1 ≤ x.r ∧ x.r ≤ 8 ∧ 2 ≤ x.h ∧ x.h ≤ 8 ∧ (x.m + 1) * (x.h + 1) ≤ x.l ∧ x.l ≤ 255 := by
  obtain ⟨⟨h1, h2, h3, h4, h5, h6, h7, h8⟩, h9, h10⟩ := h
  exact ⟨h1, h2, h3, h4, h5, h6, h7, h8, h9, h10⟩
theorem Cfg.cr {x : Cfg} (h : x.Ok) : 1 ≤ x.c * x.r ∧ x.c * x.r ≤ 64 := by
  obtain ⟨h1, h2, h3, h4, h5, h6, h7, h8, h9, h10⟩ := Cfg.bounds h
  constructor
  · have : 0 < x.c * x.r := Int.mul_pos (by omega) (by omega)
    omega
  · have : x.c * x.r ≤ 8 * x.r := Int.mul_le_mul_of_nonneg_right (by omega) (by omega)
    omega
theorem Cfg.crm {x : Cfg} (h : x.Ok) : 2 ≤ x.c * x.r * (x.m - 1) ∧ x.c * x.r * (x.m - 1) ≤ 960 := by
  obtain ⟨h1, h2, h3, h4, h5, h6, h7, h8, h9, h10⟩ := Cfg.bounds h
  obtain ⟨k1, k2⟩ := Cfg.cr h
  constructor
  · have : 1 * (x.m - 1) ≤ x.c * x.r * (x.m - 1) := Int.mul_le_mul_of_nonneg_right k1 (by omega)
    omega
  · have : x.c * x.r * (x.m - 1) ≤ 64 * (x.m - 1) := Int.mul_le_mul_of_nonneg_right k2 (by omega)
    omega

theorem blocks_ok (x : Cfg) (hx : x.Ok) (w : World) : Calls Try.prog 45 #[x.val] w fun e w' => e = .returned (.tuple #[.int .i64 (x.c * x.r * (x.m - 1)), .int .i64 0]) ∧ Below w.heap.size w w' := by
  have HT := Lib.hid (told_ok x hx)
  obtain ⟨b1, b2, b3, b4, b5, b6, b7, b8, _, b10⟩ := Cfg.bounds hx
  obtain ⟨k1, k2⟩ := Cfg.cr hx
  obtain ⟨k3, k4⟩ := Cfg.crm hx
  obtain ⟨id, m, c, r, l, h⟩ := x
  unfold Cfg.val at HT ⊢
  dsimp only at *
  clear hx
  go_enter Try.func45, Try.ntmps45
  go_wp2_with fail
  refine (HT.out _ _).mono ?_
  rintro e w1 ⟨rfl, k1⟩
  go_wp2
  go_ret2
  exact ⟨rfl, Ext.trans (Ext.alloc (Below.refl _ _) _) k1⟩
theorem blocks_bad (x : Cfg) (hx : ¬ x.Ok) (w : World) : Calls Try.prog 45 #[x.val] w fun e w' => e = .returned (.tuple #[.int .i64 0, .int .i64 8]) ∧ Below w.heap.size w w' := by
  have HT := Lib.hid (told_bad x hx)
  obtain ⟨id, m, c, r, l, h⟩ := x
  unfold Cfg.val at HT ⊢
  dsimp only at *
  clear hx
  go_enter Try.func45, Try.ntmps45
  go_wp2_with fail
  refine (HT.out _ _).mono ?_
  rintro e w1 ⟨rfl, k1⟩
  go_wp2
  go_ret2
  exact ⟨rfl, Ext.trans (Ext.alloc (Below.refl _ _) _) k1⟩

end Go.Proofs.Ytclbihcggjjgaaa
/- Layer 8 (split): kinds, and whether a request may be. -/
namespace Go.Proofs.Ytclbihcggjjgaaa
open Go.RowKit
set_option linter.unusedSimpArgs false
set_option linter.unusedVariables false

def kMost (k : Int) : Int := if k = 1 ∨ k = 2 ∨ k = 3 ∨ k = 5 then 8 else 0
def kBytes (k : Int) : Bool := decide (k = 2 ∨ k = 3)
def kWrites (k : Int) : Bool := decide (k = 2 ∨ k = 3 ∨ k = 5)
def kIs (k : Int) : Bool := decide (1 ≤ k ∧ k ≤ 6)

theorem of_1 (w : World) : Calls Try.prog 76 #[.int .u8 1] w fun e w' => e = .returned (.tuple #[.agg #[.int .i64 8, .bool false, .bool false], .bool true]) ∧ Below w.heap.size w w' := by
  go_enter Try.func76, Try.ntmps76
  go_wp2
  exact bodyPost_ret (v := .tuple #[.agg #[.int .i64 8, .bool false, .bool false], .bool true]) (Eq.trans (results_row2 (P := Try.prog) (fn := Try.f76) (p := 2) (u := 3) (ty := 120) rfl _ _ w.heap.size 120 #[.int .i64 8, .bool false, .bool false] (0, 0) _ rfl (heap_alloc_new _ _) Try.underlying120 rfl (by kernel_rfl)) rfl) rfl ⟨rfl, Ext.alloc (Below.refl _ _) _⟩
theorem of_2 (w : World) : Calls Try.prog 76 #[.int .u8 2] w fun e w' => e = .returned (.tuple #[.agg #[.int .i64 8, .bool true, .bool true], .bool true]) ∧ Below w.heap.size w w' := by
  go_enter Try.func76, Try.ntmps76
  go_wp2
  exact bodyPost_ret (v := .tuple #[.agg #[.int .i64 8, .bool true, .bool true], .bool true]) (Eq.trans (results_row2 (P := Try.prog) (fn := Try.f76) (p := 2) (u := 3) (ty := 120) rfl _ _ w.heap.size 120 #[.int .i64 8, .bool true, .bool true] (0, 0) _ rfl (heap_alloc_new _ _) Try.underlying120 rfl (by kernel_rfl)) rfl) rfl ⟨rfl, Ext.alloc (Below.refl _ _) _⟩
theorem of_3 (w : World) : Calls Try.prog 76 #[.int .u8 3] w fun e w' => e = .returned (.tuple #[.agg #[.int .i64 8, .bool true, .bool true], .bool true]) ∧ Below w.heap.size w w' := by
  go_enter Try.func76, Try.ntmps76
  go_wp2
  exact bodyPost_ret (v := .tuple #[.agg #[.int .i64 8, .bool true, .bool true], .bool true]) (Eq.trans (results_row2 (P := Try.prog) (fn := Try.f76) (p := 2) (u := 3) (ty := 120) rfl _ _ w.heap.size 120 #[.int .i64 8, .bool true, .bool true] (0, 0) _ rfl (heap_alloc_new _ _) Try.underlying120 rfl (by kernel_rfl)) rfl) rfl ⟨rfl, Ext.alloc (Below.refl _ _) _⟩
theorem of_4 (w : World) : Calls Try.prog 76 #[.int .u8 4] w fun e w' => e = .returned (.tuple #[.agg #[.int .i64 0, .bool false, .bool false], .bool true]) ∧ Below w.heap.size w w' := by
  go_enter Try.func76, Try.ntmps76
  go_wp2
  exact bodyPost_ret (v := .tuple #[.agg #[.int .i64 0, .bool false, .bool false], .bool true]) (Eq.trans (results_row2 (P := Try.prog) (fn := Try.f76) (p := 2) (u := 3) (ty := 120) rfl _ _ w.heap.size 120 #[.int .i64 0, .bool false, .bool false] (0, 0) _ rfl (heap_alloc_new _ _) Try.underlying120 rfl (by kernel_rfl)) rfl) rfl ⟨rfl, Ext.alloc (Below.refl _ _) _⟩
theorem of_5 (w : World) : Calls Try.prog 76 #[.int .u8 5] w fun e w' => e = .returned (.tuple #[.agg #[.int .i64 8, .bool false, .bool true], .bool true]) ∧ Below w.heap.size w w' := by
  go_enter Try.func76, Try.ntmps76
  go_wp2
  exact bodyPost_ret (v := .tuple #[.agg #[.int .i64 8, .bool false, .bool true], .bool true]) (Eq.trans (results_row2 (P := Try.prog) (fn := Try.f76) (p := 2) (u := 3) (ty := 120) rfl _ _ w.heap.size 120 #[.int .i64 8, .bool false, .bool true] (0, 0) _ rfl (heap_alloc_new _ _) Try.underlying120 rfl (by kernel_rfl)) rfl) rfl ⟨rfl, Ext.alloc (Below.refl _ _) _⟩
theorem of_6 (w : World) : Calls Try.prog 76 #[.int .u8 6] w fun e w' => e = .returned (.tuple #[.agg #[.int .i64 0, .bool false, .bool false], .bool true]) ∧ Below w.heap.size w w' := by
  go_enter Try.func76, Try.ntmps76
  go_wp2
  exact bodyPost_ret (v := .tuple #[.agg #[.int .i64 0, .bool false, .bool false], .bool true]) (Eq.trans (results_row2 (P := Try.prog) (fn := Try.f76) (p := 2) (u := 3) (ty := 120) rfl _ _ w.heap.size 120 #[.int .i64 0, .bool false, .bool false] (0, 0) _ rfl (heap_alloc_new _ _) Try.underlying120 rfl (by kernel_rfl)) rfl) rfl ⟨rfl, Ext.alloc (Below.refl _ _) _⟩
theorem of_no (k : Int) (hk : ¬ (1 ≤ k ∧ k ≤ 6)) (w : World) : Calls Try.prog 76 #[.int .u8 k] w fun e w' => e = .returned (.tuple #[.agg #[.int .i64 0, .bool false, .bool false], .bool false]) ∧ Below w.heap.size w w' := by
  have h1 : (k == 1) = false := by simp; omega
  have h2 : (k == 2) = false := by simp; omega
  have h3 : (k == 3) = false := by simp; omega
  have h4 : (k == 4) = false := by simp; omega
  have h5 : (k == 5) = false := by simp; omega
  have h6 : (k == 6) = false := by simp; omega
  clear hk
  go_enter Try.func76, Try.ntmps76
  go_wp2
  exact bodyPost_ret (v := .tuple #[.agg #[.int .i64 0, .bool false, .bool false], .bool false]) (Eq.trans (results_row2 (P := Try.prog) (fn := Try.f76) (p := 2) (u := 3) (ty := 120) rfl _ _ w.heap.size 120 #[.int .i64 0, .bool false, .bool false] (0, 0) _ rfl (heap_alloc_new _ _) Try.underlying120 rfl (by kernel_rfl)) rfl) rfl ⟨rfl, Ext.alloc (Below.refl _ _) _⟩
theorem of_any (k : Int) (w : World) : Calls Try.prog 76 #[.int .u8 k] w fun e w' => e = .returned (.tuple #[.agg #[.int .i64 (kMost k), .bool (kBytes k), .bool (kWrites k)], .bool (kIs k)]) ∧ Below w.heap.size w w' := by
  by_cases hk : 1 ≤ k ∧ k ≤ 6
  · rcases (show k = 1 ∨ k = 2 ∨ k = 3 ∨ k = 4 ∨ k = 5 ∨ k = 6 by omega) with rfl | rfl | rfl | rfl | rfl | rfl
    · exact of_1 w
    · exact of_2 w
    · exact of_3 w
    · exact of_4 w
    · exact of_5 w
    · exact of_6 w
  · have h := of_no k hk w
    have e1 : kMost k = 0 := if_neg (by omega)
    have e2 : kBytes k = false := decide_eq_false (by omega)
    have e3 : kWrites k = false := decide_eq_false (by omega)
    have e4 : kIs k = false := decide_eq_false hk
    rw [e1, e2, e3, e4]
    exact h
end Go.Proofs.Ytclbihcggjjgaaa
/- Layer 8 (split): whether a request may be. -/
namespace Go.Proofs.Ytclbihcggjjgaaa
open Go.RowKit
set_option linter.unusedSimpArgs false
set_option linter.unusedVariables false

def Placed (nb k a y : Int) : Prop := (kMost k = 8 ∧ 1 ≤ y ∧ y ≤ 8 ∧ 0 ≤ a ∧ a ≤ nb - y) ∨ (kIs k = true ∧ kMost k = 0 ∧ a = 0 ∧ y = 0)
theorem kMost_is {k : Int} (h : kMost k = 8) : kIs k = true := by
  unfold kMost at h
  split at h
  · exact decide_eq_true (by omega)
  · cases h
theorem kMost_or (k : Int) : kMost k = 8 ∨ (kMost k = 0 ∧ kBytes k = false ∧ kWrites k = false) := by
  unfold kMost
  split
  · exact .inl rfl
  · exact .inr ⟨rfl, decide_eq_false (by omega), decide_eq_false (by omega)⟩
def kWant (k y : Int) : Int := if kBytes k then y * 128 else 0

set_option maxRecDepth 100000 in
theorem scheck_bad (x : Cfg) (hx : ¬ x.Ok) (k a y : Int) (A : Option Addr) (n q : Nat) (w : World) :
    Calls Try.prog 47 #[x.val, .agg #[.int .u8 k, .int .i64 a, .int .i64 y, .slice A n q]] w fun e w' => e = .returned (.int .i64 8) ∧ Below w.heap.size w w' := by
  have HB := Lib.hid (blocks_bad x hx)
  obtain ⟨id, m, c, r, l, h⟩ := x
  unfold Cfg.val at *
  dsimp only at *
  all_goals
    go_enter Try.func47, Try.ntmps47
    go_wp2_with fail
    have A0 := BoxOf.new' (w.alloc (.cells #[.int .u32 (id : Int), .int .i64 m, .int .i64 c, .int .i64 r, .int .i64 l, .int .i64 h] 24)) (w.heap.size + 1) #[.int .u8 k, .int .i64 a, .int .i64 y, .slice A n q] 58 (by simp)
    have t0 := Ext.alloc (Ext.alloc (Below.refl w.heap.size w) (.cells #[.int .u32 (id : Int), .int .i64 m, .int .i64 c, .int .i64 r, .int .i64 l, .int .i64 h] 24)) (.cells #[.int .u8 k, .int .i64 a, .int .i64 y, .slice A n q] 58)
    refine (HB.out _).mono ?_
    rintro e w1 ⟨rfl, b1⟩
    have A1 := A0.next b1
    have t1 := Ext.trans t0 b1
    have x1 := A1.cell
    clear A0 t0 b1
    go_wp2
    go_ret
    exact ⟨rfl, t1⟩

set_option maxRecDepth 100000 in
set_option maxHeartbeats 1000000 in
theorem scheck_arg (x : Cfg) (hx : x.Ok) (k a y : Int) (A : Option Addr) (n q : Nat) (hp : ¬ Placed (x.c * x.r * (x.m - 1)) k a y) (w : World) :
    Calls Try.prog 47 #[x.val, .agg #[.int .u8 k, .int .i64 a, .int .i64 y, .slice A n q]] w fun e w' => e = .returned (.int .i64 2) ∧ Below w.heap.size w w' := by
  have HB := Lib.hid (blocks_ok x hx)
  have HO := Lib.hid (of_any k)
  have hcr := Cfg.crm hx
  have hor := kMost_or k
  have his := @kMost_is k
  unfold Placed at hp
  obtain ⟨id, m, c, r, l, h⟩ := x
  unfold Cfg.val at *
  dsimp only at *
  clear hx
  generalize c * r * (m - 1) = nb at *
  obtain ⟨hn1, hn2⟩ := hcr
  generalize kMost k = mo at *
  generalize kBytes k = by' at *
  generalize kWrites k = wr at *
  generalize kIs k = is at *
  rcases hor with rfl | ⟨rfl, rfl, rfl⟩
  · obtain rfl := his rfl
    rcases (show a < 0 ∨ (0 ≤ a ∧ y < 1) ∨ (0 ≤ a ∧ 8 < y) ∨ ((0 ≤ a ∧ 1 ≤ y ∧ y ≤ 8) ∧ nb - y < a) by omega) with h1 | ⟨h1, h2⟩ | ⟨h1, h2⟩ | ⟨⟨h1, h2, h3⟩, h4⟩
    all_goals
      clear his hp
      go_enter Try.func47, Try.ntmps47
      go_wp2_with fail
      have A0 := BoxOf.new' (w.alloc (.cells #[.int .u32 (id : Int), .int .i64 m, .int .i64 c, .int .i64 r, .int .i64 l, .int .i64 h] 24)) (w.heap.size + 1) #[.int .u8 k, .int .i64 a, .int .i64 y, .slice A n q] 58 (by simp)
      have t0 := Ext.alloc (Ext.alloc (Below.refl w.heap.size w) (.cells #[.int .u32 (id : Int), .int .i64 m, .int .i64 c, .int .i64 r, .int .i64 l, .int .i64 h] 24)) (.cells #[.int .u8 k, .int .i64 a, .int .i64 y, .slice A n q] 58)
      refine (HB.out _).mono ?_
      rintro e w1 ⟨rfl, b1⟩
      have A1 := A0.next b1
      have t1 := Ext.trans t0 b1
      have x1 := A1.cell
      clear A0 t0 b1
      go_wp2_with fail
      refine (HO.out _).mono ?_
      rintro e w2 ⟨rfl, b2⟩
      have A2 := A1.next b2
      have t2 := Ext.alloc (Ext.trans t1 b2) (.cells #[.int .i64 8, .bool by', .bool wr] 120)
      have x2 := A2.cell
      have l2 := A2.lt
      clear x1 A1 t1 b2 A2
      go_wp2
      go_ret
      exact ⟨rfl, t2⟩
  · cases is with
    | false =>
      clear his hp
      go_enter Try.func47, Try.ntmps47
      go_wp2_with fail
      have A0 := BoxOf.new' (w.alloc (.cells #[.int .u32 (id : Int), .int .i64 m, .int .i64 c, .int .i64 r, .int .i64 l, .int .i64 h] 24)) (w.heap.size + 1) #[.int .u8 k, .int .i64 a, .int .i64 y, .slice A n q] 58 (by simp)
      have t0 := Ext.alloc (Ext.alloc (Below.refl w.heap.size w) (.cells #[.int .u32 (id : Int), .int .i64 m, .int .i64 c, .int .i64 r, .int .i64 l, .int .i64 h] 24)) (.cells #[.int .u8 k, .int .i64 a, .int .i64 y, .slice A n q] 58)
      refine (HB.out _).mono ?_
      rintro e w1 ⟨rfl, b1⟩
      have A1 := A0.next b1
      have t1 := Ext.trans t0 b1
      have x1 := A1.cell
      clear A0 t0 b1
      go_wp2_with fail
      refine (HO.out _).mono ?_
      rintro e w2 ⟨rfl, b2⟩
      have A2 := A1.next b2
      have t2 := Ext.alloc (Ext.trans t1 b2) (.cells #[.int .i64 0, .bool false, .bool false] 120)
      have x2 := A2.cell
      have l2 := A2.lt
      clear x1 A1 t1 b2 A2
      go_wp2
      go_ret
      exact ⟨rfl, t2⟩
    | true =>
      have hp' : ¬ (a = 0 ∧ y = 0) := fun h => hp (.inr ⟨rfl, rfl, h⟩)
      rcases (show a < 0 ∨ (0 ≤ a ∧ y < 0) ∨ (0 ≤ a ∧ 0 < y) ∨ ((0 ≤ a ∧ 0 ≤ y ∧ y ≤ 0) ∧ nb < a) ∨ ((0 ≤ a ∧ 0 ≤ y ∧ y ≤ 0) ∧ a ≤ nb ∧ 0 < a) by omega) with h1 | ⟨h1, h2⟩ | ⟨h1, h2⟩ | ⟨⟨h1, h2, h3⟩, h4⟩ | ⟨⟨h1, h2, h3⟩, h4, h5⟩
      all_goals
        clear his hp hp'
        go_enter Try.func47, Try.ntmps47
        go_wp2_with fail
        have A0 := BoxOf.new' (w.alloc (.cells #[.int .u32 (id : Int), .int .i64 m, .int .i64 c, .int .i64 r, .int .i64 l, .int .i64 h] 24)) (w.heap.size + 1) #[.int .u8 k, .int .i64 a, .int .i64 y, .slice A n q] 58 (by simp)
        have t0 := Ext.alloc (Ext.alloc (Below.refl w.heap.size w) (.cells #[.int .u32 (id : Int), .int .i64 m, .int .i64 c, .int .i64 r, .int .i64 l, .int .i64 h] 24)) (.cells #[.int .u8 k, .int .i64 a, .int .i64 y, .slice A n q] 58)
        refine (HB.out _).mono ?_
        rintro e w1 ⟨rfl, b1⟩
        have A1 := A0.next b1
        have t1 := Ext.trans t0 b1
        have x1 := A1.cell
        clear A0 t0 b1
        go_wp2_with fail
        refine (HO.out _).mono ?_
        rintro e w2 ⟨rfl, b2⟩
        have A2 := A1.next b2
        have t2 := Ext.alloc (Ext.trans t1 b2) (.cells #[.int .i64 0, .bool false, .bool false] 120)
        have x2 := A2.cell
        have l2 := A2.lt
        clear x1 A1 t1 b2 A2
        go_wp2
        go_ret
        exact ⟨rfl, t2⟩

set_option maxRecDepth 100000 in
set_option maxHeartbeats 1000000 in
theorem scheck_text (x : Cfg) (hx : x.Ok) (k a y : Int) (A : Option Addr) (n q : Nat) (hp : Placed (x.c * x.r * (x.m - 1)) k a y) (hn : (n : Int) ≠ kWant k y) (w : World) :
    Calls Try.prog 47 #[x.val, .agg #[.int .u8 k, .int .i64 a, .int .i64 y, .slice A n q]] w fun e w' => e = .returned (.int .i64 3) ∧ Below w.heap.size w w' := by
  have HB := Lib.hid (blocks_ok x hx)
  have HO := Lib.hid (of_any k)
  have hcr := Cfg.crm hx
  have hor := kMost_or k
  have his := @kMost_is k
  unfold Placed at hp
  unfold kWant at hn
  obtain ⟨id, m, c, r, l, h⟩ := x
  unfold Cfg.val at *
  dsimp only at *
  clear hx
  generalize c * r * (m - 1) = nb at *
  obtain ⟨hn1, hn2⟩ := hcr
  generalize kMost k = mo at *
  generalize kBytes k = by' at *
  generalize kWrites k = wr at *
  generalize kIs k = is at *
  rcases hor with rfl | ⟨rfl, rfl, rfl⟩
  · obtain rfl := his rfl
    obtain ⟨h1, h2, h3, h4⟩ : 1 ≤ y ∧ y ≤ 8 ∧ 0 ≤ a ∧ a ≤ nb - y := by omega
    cases by' with
    | true =>
      have hne : ((n : Int) != y * 128) = true := by simp at hn ⊢; exact hn
      clear his hp hn
      go_enter Try.func47, Try.ntmps47
      go_wp2_with fail
      have A0 := BoxOf.new' (w.alloc (.cells #[.int .u32 (id : Int), .int .i64 m, .int .i64 c, .int .i64 r, .int .i64 l, .int .i64 h] 24)) (w.heap.size + 1) #[.int .u8 k, .int .i64 a, .int .i64 y, .slice A n q] 58 (by simp)
      have t0 := Ext.alloc (Ext.alloc (Below.refl w.heap.size w) (.cells #[.int .u32 (id : Int), .int .i64 m, .int .i64 c, .int .i64 r, .int .i64 l, .int .i64 h] 24)) (.cells #[.int .u8 k, .int .i64 a, .int .i64 y, .slice A n q] 58)
      refine (HB.out _).mono ?_
      rintro e w1 ⟨rfl, b1⟩
      have A1 := A0.next b1
      have t1 := Ext.trans t0 b1
      have x1 := A1.cell
      clear A0 t0 b1
      go_wp2_with fail
      refine (HO.out _).mono ?_
      rintro e w2 ⟨rfl, b2⟩
      have A2 := A1.next b2
      have t2 := Ext.alloc (Ext.trans t1 b2) (.cells #[.int .i64 8, .bool true, .bool wr] 120)
      have x2 := A2.cell
      have l2 := A2.lt
      clear x1 A1 t1 b2 A2
      go_wp2
      go_ret
      exact ⟨rfl, t2⟩
    | false =>
      have hne : ((n : Int) != 0) = true := by simp at hn ⊢; exact hn
      clear his hp hn
      go_enter Try.func47, Try.ntmps47
      go_wp2_with fail
      have A0 := BoxOf.new' (w.alloc (.cells #[.int .u32 (id : Int), .int .i64 m, .int .i64 c, .int .i64 r, .int .i64 l, .int .i64 h] 24)) (w.heap.size + 1) #[.int .u8 k, .int .i64 a, .int .i64 y, .slice A n q] 58 (by simp)
      have t0 := Ext.alloc (Ext.alloc (Below.refl w.heap.size w) (.cells #[.int .u32 (id : Int), .int .i64 m, .int .i64 c, .int .i64 r, .int .i64 l, .int .i64 h] 24)) (.cells #[.int .u8 k, .int .i64 a, .int .i64 y, .slice A n q] 58)
      refine (HB.out _).mono ?_
      rintro e w1 ⟨rfl, b1⟩
      have A1 := A0.next b1
      have t1 := Ext.trans t0 b1
      have x1 := A1.cell
      clear A0 t0 b1
      go_wp2_with fail
      refine (HO.out _).mono ?_
      rintro e w2 ⟨rfl, b2⟩
      have A2 := A1.next b2
      have t2 := Ext.alloc (Ext.trans t1 b2) (.cells #[.int .i64 8, .bool false, .bool wr] 120)
      have x2 := A2.cell
      have l2 := A2.lt
      clear x1 A1 t1 b2 A2
      go_wp2
      go_ret
      exact ⟨rfl, t2⟩
  · obtain ⟨rfl, ha, hy⟩ : is = true ∧ a = 0 ∧ y = 0 := hp.elim (fun h => absurd h.1 (by decide)) (fun h => ⟨h.1, h.2.2⟩)
    obtain ⟨ha1, ha2, hy1, hy2⟩ : 0 ≤ a ∧ a ≤ 0 ∧ 0 ≤ y ∧ y ≤ 0 := by omega
    clear ha hy
    have hne : ((n : Int) != 0) = true := by simp at hn ⊢; exact hn
    clear his hp hn
    go_enter Try.func47, Try.ntmps47
    go_wp2_with fail
    have A0 := BoxOf.new' (w.alloc (.cells #[.int .u32 (id : Int), .int .i64 m, .int .i64 c, .int .i64 r, .int .i64 l, .int .i64 h] 24)) (w.heap.size + 1) #[.int .u8 k, .int .i64 a, .int .i64 y, .slice A n q] 58 (by simp)
    have t0 := Ext.alloc (Ext.alloc (Below.refl w.heap.size w) (.cells #[.int .u32 (id : Int), .int .i64 m, .int .i64 c, .int .i64 r, .int .i64 l, .int .i64 h] 24)) (.cells #[.int .u8 k, .int .i64 a, .int .i64 y, .slice A n q] 58)
    refine (HB.out _).mono ?_
    rintro e w1 ⟨rfl, b1⟩
    have A1 := A0.next b1
    have t1 := Ext.trans t0 b1
    have x1 := A1.cell
    clear A0 t0 b1
    go_wp2_with fail
    refine (HO.out _).mono ?_
    rintro e w2 ⟨rfl, b2⟩
    have A2 := A1.next b2
    have t2 := Ext.alloc (Ext.trans t1 b2) (.cells #[.int .i64 0, .bool false, .bool false] 120)
    have x2 := A2.cell
    have l2 := A2.lt
    clear x1 A1 t1 b2 A2
    go_wp2
    go_ret
    exact ⟨rfl, t2⟩

set_option maxRecDepth 100000 in
set_option maxHeartbeats 1000000 in
theorem scheck_ok (x : Cfg) (hx : x.Ok) (k a y : Int) (A : Option Addr) (n q : Nat) (hp : Placed (x.c * x.r * (x.m - 1)) k a y) (hn : (n : Int) = kWant k y) (w : World) :
    Calls Try.prog 47 #[x.val, .agg #[.int .u8 k, .int .i64 a, .int .i64 y, .slice A n q]] w fun e w' => e = .returned (.int .i64 0) ∧ Below w.heap.size w w' := by
  have HB := Lib.hid (blocks_ok x hx)
  have HO := Lib.hid (of_any k)
  have hcr := Cfg.crm hx
  have hor := kMost_or k
  have his := @kMost_is k
  unfold Placed at hp
  unfold kWant at hn
  obtain ⟨id, m, c, r, l, h⟩ := x
  unfold Cfg.val at *
  dsimp only at *
  clear hx
  generalize c * r * (m - 1) = nb at *
  obtain ⟨hn1, hn2⟩ := hcr
  generalize kMost k = mo at *
  generalize kBytes k = by' at *
  generalize kWrites k = wr at *
  generalize kIs k = is at *
  rcases hor with rfl | ⟨rfl, rfl, rfl⟩
  · obtain rfl := his rfl
    obtain ⟨h1, h2, h3, h4⟩ : 1 ≤ y ∧ y ≤ 8 ∧ 0 ≤ a ∧ a ≤ nb - y := by omega
    cases by' with
    | true =>
      have hne : ((n : Int) != y * 128) = false := by simp at hn ⊢; exact hn
      clear his hp hn
      go_enter Try.func47, Try.ntmps47
      go_wp2_with fail
      have A0 := BoxOf.new' (w.alloc (.cells #[.int .u32 (id : Int), .int .i64 m, .int .i64 c, .int .i64 r, .int .i64 l, .int .i64 h] 24)) (w.heap.size + 1) #[.int .u8 k, .int .i64 a, .int .i64 y, .slice A n q] 58 (by simp)
      have t0 := Ext.alloc (Ext.alloc (Below.refl w.heap.size w) (.cells #[.int .u32 (id : Int), .int .i64 m, .int .i64 c, .int .i64 r, .int .i64 l, .int .i64 h] 24)) (.cells #[.int .u8 k, .int .i64 a, .int .i64 y, .slice A n q] 58)
      refine (HB.out _).mono ?_
      rintro e w1 ⟨rfl, b1⟩
      have A1 := A0.next b1
      have t1 := Ext.trans t0 b1
      have x1 := A1.cell
      clear A0 t0 b1
      go_wp2_with fail
      refine (HO.out _).mono ?_
      rintro e w2 ⟨rfl, b2⟩
      have A2 := A1.next b2
      have t2 := Ext.alloc (Ext.trans t1 b2) (.cells #[.int .i64 8, .bool true, .bool wr] 120)
      have x2 := A2.cell
      have l2 := A2.lt
      clear x1 A1 t1 b2 A2
      go_wp2
      go_ret
      exact ⟨rfl, t2⟩
    | false =>
      have hne : ((n : Int) != 0) = false := by simp at hn ⊢; exact hn
      clear his hp hn
      go_enter Try.func47, Try.ntmps47
      go_wp2_with fail
      have A0 := BoxOf.new' (w.alloc (.cells #[.int .u32 (id : Int), .int .i64 m, .int .i64 c, .int .i64 r, .int .i64 l, .int .i64 h] 24)) (w.heap.size + 1) #[.int .u8 k, .int .i64 a, .int .i64 y, .slice A n q] 58 (by simp)
      have t0 := Ext.alloc (Ext.alloc (Below.refl w.heap.size w) (.cells #[.int .u32 (id : Int), .int .i64 m, .int .i64 c, .int .i64 r, .int .i64 l, .int .i64 h] 24)) (.cells #[.int .u8 k, .int .i64 a, .int .i64 y, .slice A n q] 58)
      refine (HB.out _).mono ?_
      rintro e w1 ⟨rfl, b1⟩
      have A1 := A0.next b1
      have t1 := Ext.trans t0 b1
      have x1 := A1.cell
      clear A0 t0 b1
      go_wp2_with fail
      refine (HO.out _).mono ?_
      rintro e w2 ⟨rfl, b2⟩
      have A2 := A1.next b2
      have t2 := Ext.alloc (Ext.trans t1 b2) (.cells #[.int .i64 8, .bool false, .bool wr] 120)
      have x2 := A2.cell
      have l2 := A2.lt
      clear x1 A1 t1 b2 A2
      go_wp2
      go_ret
      exact ⟨rfl, t2⟩
  · obtain ⟨rfl, ha, hy⟩ : is = true ∧ a = 0 ∧ y = 0 := hp.elim (fun h => absurd h.1 (by decide)) (fun h => ⟨h.1, h.2.2⟩)
    obtain ⟨ha1, ha2, hy1, hy2⟩ : 0 ≤ a ∧ a ≤ 0 ∧ 0 ≤ y ∧ y ≤ 0 := by omega
    clear ha hy
    have hne : ((n : Int) != 0) = false := by simp at hn ⊢; exact hn
    clear his hp hn
    go_enter Try.func47, Try.ntmps47
    go_wp2_with fail
    have A0 := BoxOf.new' (w.alloc (.cells #[.int .u32 (id : Int), .int .i64 m, .int .i64 c, .int .i64 r, .int .i64 l, .int .i64 h] 24)) (w.heap.size + 1) #[.int .u8 k, .int .i64 a, .int .i64 y, .slice A n q] 58 (by simp)
    have t0 := Ext.alloc (Ext.alloc (Below.refl w.heap.size w) (.cells #[.int .u32 (id : Int), .int .i64 m, .int .i64 c, .int .i64 r, .int .i64 l, .int .i64 h] 24)) (.cells #[.int .u8 k, .int .i64 a, .int .i64 y, .slice A n q] 58)
    refine (HB.out _).mono ?_
    rintro e w1 ⟨rfl, b1⟩
    have A1 := A0.next b1
    have t1 := Ext.trans t0 b1
    have x1 := A1.cell
    clear A0 t0 b1
    go_wp2_with fail
    refine (HO.out _).mono ?_
    rintro e w2 ⟨rfl, b2⟩
    have A2 := A1.next b2
    have t2 := Ext.alloc (Ext.trans t1 b2) (.cells #[.int .i64 0, .bool false, .bool false] 120)
    have x2 := A2.cell
    have l2 := A2.lt
    clear x1 A1 t1 b2 A2
    go_wp2
    go_ret
    exact ⟨rfl, t2⟩
end Go.Proofs.Ytclbihcggjjgaaa
/- Layer 8 (split): the document's answer: whether a request may be. -/
namespace Go.Proofs.Ytclbihcggjjgaaa
open Go.RowKit
set_option linter.unusedSimpArgs false
set_option linter.unusedVariables false

instance (nb k a y : Int) : Decidable (Placed nb k a y) := by unfold Placed; infer_instance

end Go.Proofs.Ytclbihcggjjgaaa
/- Layer 8 (split): Check, Blocks and Touch, whatever comes in. -/
namespace Go.Proofs.Ytclbihcggjjgaaa
open Go.RowKit
set_option linter.unusedSimpArgs false
set_option linter.unusedVariables false

/-- the error of a request -/
def askCode (x : Cfg) (k a y : Int) (n : Nat) : Int := if x.Ok then (if Placed (x.c * x.r * (x.m - 1)) k a y then (if (n : Int) = kWant k y then 0 else 3) else 2) else 8
theorem scheck_all (x : Cfg) (k a y : Int) (A : Option Addr) (n q : Nat) (w : World) :
    Calls Try.prog 47 #[x.val, .agg #[.int .u8 k, .int .i64 a, .int .i64 y, .slice A n q]] w fun e w' => e = .returned (.int .i64 (askCode x k a y n)) ∧ Below w.heap.size w w' := by
  unfold askCode
  split
  · rename_i hx
    split
    · rename_i hp
      split
      · rename_i hn; exact scheck_ok x hx k a y A n q hp hn w
      · rename_i hn; exact scheck_text x hx k a y A n q hp hn w
    · rename_i hp; exact scheck_arg x hx k a y A n q hp w
  · rename_i hx; exact scheck_bad x hx k a y A n q w
/-- what a request that may be has -/
theorem askCode_0 {x : Cfg} {k a y : Int} {n : Nat} (h : askCode x k a y n = 0) : x.Ok ∧ Placed (x.c * x.r * (x.m - 1)) k a y ∧ (n : Int) = kWant k y ∧ (0 ≤ y ∧ y ≤ 8) ∧ (0 ≤ a ∧ a ≤ 1000) ∧ (1 ≤ y ∨ kWrites k = false) := by
  unfold askCode at h
  split at h
  · rename_i hx
    split at h
    · rename_i hp
      split at h
      · rename_i hn
        have hcr := Cfg.crm hx
        refine ⟨hx, hp, hn, ?_, ?_, ?_⟩
        · unfold Placed at hp; omega
        · unfold Placed at hp; omega
        · rcases hp with h1 | h1
          · exact .inl h1.2.1
          · right
            rcases kMost_or k with h2 | h2
            · rw [h1.2.1] at h2; cases h2
            · exact h2.2.2
      · cases h
    · cases h
  · cases h
end Go.Proofs.Ytclbihcggjjgaaa
/- Layer 30 (model): the reference: whether marks may be. -/
namespace Go.Proofs.Ytclbihcggjjgaaa
open Go Go.RowKit
set_option linter.unusedSimpArgs false
set_option linter.unusedVariables false

/-- marks that may be -/
def MarkOk (ms : List Int) (ys : List (List (List UInt8))) (i : Nat) : Prop := ∀ (h : i < ms.length) (h' : i < ys.length), 0 ≤ ms[i] ∧ ms[i] < ((ys[i]).length : Int)
def MarksOk (k : Int) (ms : List Int) (ys : List (List (List UInt8))) : Prop := if k = 4 then ms.length = ys.length ∧ ∀ i, MarkOk ms ys i else ms.length = 0

/-- a call tells yes or no -/
def YesNo (P : Prop) (e : Ending) : Prop := ∃ b, e = .returned (.bool b) ∧ (b = true ↔ P)
theorem YesNo.yes {P : Prop} (h : P) : YesNo P (.returned (.bool true)) := ⟨true, rfl, by simp [h]⟩
theorem YesNo.no {P : Prop} (h : ¬ P) : YesNo P (.returned (.bool false)) := ⟨false, rfl, by simp [h]⟩
theorem YesNo.of {P : Prop} {b : Bool} (h : b = true ↔ P) : YesNo P (.returned (.bool b)) := ⟨b, rfl, h⟩

end Go.Proofs.Ytclbihcggjjgaaa
/- Layer 30 (model): the reference: whether a plain array may be. -/
namespace Go.Proofs.Ytclbihcggjjgaaa
open Go Go.RowKit
set_option linter.unusedSimpArgs false
set_option linter.unusedVariables false

def SizeOk (zs : List (List UInt8)) (k : Nat) : Prop := ∀ h : k < zs.length, (zs[k]).length = 128
def RowOk (zs : List (List UInt8)) : Prop := 1 ≤ zs.length ∧ zs.length ≤ 512 ∧ ∀ k, SizeOk zs k
def ValOk (ys : List (List (List UInt8))) (i : Nat) : Prop := ∀ h : i < ys.length, RowOk ys[i]
def PrevOk (gs : List GoTy.T) (i : Nat) (n : Int) : Prop := ∀ (h : i - 1 < gs.length), 0 < i → nuOf gs[i - 1] < n
def OneOk (x : Cfg) (ys : List (List (List UInt8))) (g : GoTy.T) : Prop := 1 ≤ nuOf g ∧ askCode x ((kiOf g).toNat : Int) (atOf g) (manyOf g) (datOf g).length = 0 ∧ MarksOk ((kiOf g).toNat : Int) (mksOf g) ys
def GoOk (x : Cfg) (ys : List (List (List UInt8))) (gs : List GoTy.T) (i : Nat) : Prop := ∀ h : i < gs.length, OneOk x ys gs[i] ∧ PrevOk gs i (nuOf gs[i])
/-- a plain array that may be -/
structure PlainOk (x : Cfg) (ys : List (List (List UInt8))) (gs : List GoTy.T) : Prop where
  cfg : x.Ok
  len : (ys.length : Int) = x.c * x.r * (x.m - 1)
  few : gs.length ≤ 8
  vals : ∀ i, ValOk ys i
  goes : ∀ i, GoOk x ys gs i
theorem YesNo.is {P : Prop} {b : Bool} {e : Ending} (hb : b = true ↔ P) (h : YesNo P e) : e = .returned (.bool b) := by
  obtain ⟨b', rfl, h'⟩ := h
  have : b' = b := Bool.eq_iff_iff.2 (h'.trans hb.symm)
  rw [this]
end Go.Proofs.Ytclbihcggjjgaaa
/- Layer 30 (model): the program: lists of bytes are searched by functions. -/
namespace Go.Proofs.Ytclbihcggjjgaaa
open Go Go.RowKit
set_option linter.unusedSimpArgs false
set_option linter.unusedVariables false

/-- a call tells a place, or none -/
def AtIs (P : Prop) (e : Ending) : Prop := ∃ n : Int, e = .returned (.int .i64 n) ∧ (0 ≤ n ↔ P)
theorem AtIs.at {P : Prop} {n : Nat} (h : P) : AtIs P (.returned (.int .i64 (n : Int))) := ⟨n, rfl, by simp [h]⟩
theorem AtIs.not {P : Prop} (h : ¬ P) : AtIs P (.returned (.int .i64 (-1))) := ⟨-1, rfl, by simp [h]⟩
/-- one of a list's is so -/
def SomeIs {α : Type} (p : α → Bool) (ys : List α) : Prop := ∃ i, ∃ h : i < ys.length, p ys[i] = true
def NotAt {α : Type} (p : α → Bool) (ys : List α) (i : Nat) : Prop := ∀ h : i < ys.length, p ys[i] = false
theorem SomeIs.not {α : Type} {p : α → Bool} {ys : List α} {j : Nat} (h : ∀ i, i < j → NotAt p ys i) (hj : ¬ j < ys.length) : ¬ SomeIs p ys := by
  rintro ⟨i, hi, h1⟩
  rw [h i (by omega) hi] at h1
  cases h1
def odd128 (bs : List UInt8) : Bool := (bs.length : Int) != 128
def eqBs (ds : List UInt8) (bs : List UInt8) : Bool := bs == ds

set_option maxRecDepth 100000 in
set_option maxHeartbeats 2000000 in
theorem idx_check (S : Nat → Prop) (ys : List (List UInt8)) (A : Option Addr) (c : Nat)  (w : World) (hy : RdIn w S (.sl (.sl .byte)) ys [.slice A ys.length c])  :
    Calls Try.prog 74 #[.slice A ys.length c, .func (.func 46) #[] #[]] w fun e w' => AtIs (SomeIs (odd128) ys) e ∧ Below w.heap.size w w' := by
  have HY := Lib.hid hy
  have HYM := Lib.hid (val_max hy)
  skip
  clear hy
  go_enter Try.func74, Try.ntmps74
  go_upto_region 1 with fail
  obtain ⟨W, hW⟩ : ∃ z : World, z = w := ⟨_, rfl⟩
  have b0 : Below W.heap.size W w := by rw [hW]; exact Below.refl _ _
  have HWW := Lib.hid hW
  rw [← hW] at HY
  clear hW
  go_wp2
  go_loopw [5, 8] (fun v i wr => ∃ (j : Nat), j ≤ ys.length ∧ i = .int .i64 j ∧ Below W.heap.size W wr ∧ Hid (∀ i, i < j → NotAt (odd128) ys i)) (fun _ i _ => ys.length - (intOf i).toNat)
  case atStart => exact ⟨0, by omega, rfl, b0, fun i h => absurd h (Nat.not_lt_zero _)⟩
  case round =>
    obtain ⟨j, hj, rfl, b1, HA⟩ := hrel
    clear b0
    have bw : Below w.heap.size w wr := by have := HWW.out; subst this; exact b1
    by_cases hlt : j < ys.length
    · obtain ⟨b, off, A5, c5, rfl, q5, r5⟩ := val_at (HY.out.below b1) hlt
      have HSK : Hid (NotAt (odd128) ys j ↔ (odd128) ys[j] = false) := ⟨fun h => h hlt, fun h _ => h⟩
      have HSY : Hid ((odd128) ys[j] = true → SomeIs (odd128) ys) := fun h => ⟨j, hlt, h⟩
      generalize ys[j] = bs at *
      have HWJ := next_wrap HYM.out hlt
      have HLJ := Lib.hid hlt
      have HR5 := Lib.hid r5
      clear r5
      rcases Bool.eq_false_or_eq_true ((odd128) bs) with e1 | e1
      · have HF := Lib.hid (HSY.out e1)
        unfold odd128 at e1
        go_wp2
        go_ret
        exact ⟨AtIs.at HF.out, bw⟩
      · have HA' : Hid (∀ i, i < j + 1 → NotAt (odd128) ys i) := by
          intro i hi
          by_cases h : i = j
          · subst h
            exact HSK.out.2 e1
          · exact HA.out i (by omega)
        unfold odd128 at e1
        go_wp2
        go_roundw
        case rel => exact ⟨j + 1, HLJ.out, by first | exact round_same HWJ | go_num, b1, HA'⟩
        case measure => first | exact round_less HWJ HLJ.out | (have h := HLJ.out; simp [intOf]; omega)
    · have HN := Lib.hid (SomeIs.not HA.out hlt)
      go_wp2
      go_ret
      exact ⟨AtIs.not HN.out, bw⟩
theorem has_check (S : Nat → Prop) (ys : List (List UInt8)) (A : Option Addr) (c : Nat)  (w : World) (hy : RdIn w S (.sl (.sl .byte)) ys [.slice A ys.length c])  :
    Calls Try.prog 42 #[.slice A ys.length c, .func (.func 46) #[] #[]] w fun e w' => YesNo (SomeIs (odd128) ys) e ∧ Below w.heap.size w w' := by
  have HC := Lib.hid (idx_check S ys A c w hy)
  clear hy
  go_enter Try.func42, Try.ntmps42
  go_wp2_with fail
  refine HC.out.mono ?_
  rintro e w1 ⟨⟨n, rfl, hn⟩, b1⟩
  have HN := Lib.hid hn
  clear hn
  go_wp2
  go_ret
  exact ⟨YesNo.of (by rw [decide_eq_true_iff]; exact HN.out), b1⟩
theorem eqb_any (A B : Option Addr) (n m q k : Nat) (xs bs : List UInt8) (w : World) (ha : Bs w A n xs) (hb : Bs w B m bs) :
    Calls Try.prog 51 #[.slice A n q, .slice B m k] w fun e w' => e = .returned (.bool (xs == bs)) ∧ w = w' := by
  have s1 := run_string_bs (P := Try.prog) q 29 9 5 Try.underlying29 Try.underlying5 Try.underlying9 ha
  have s2 := run_string_bs (P := Try.prog) k 29 9 5 Try.underlying29 Try.underlying5 Try.underlying9 hb
  go_enter Try.func51, Try.ntmps51
  go_wp2
  go_ret
  exact ⟨rfl, rfl⟩
theorem left1_any (A : Option Addr) (n c : Nat) (bs : List UInt8) (g : Nat) (D : Option Addr) (dn dc : Nat) (ds : List UInt8) (w : World) (ha : Bs w A n bs) (hb : Bs w D dn ds) (hg : BoxOf w g #[.slice D dn dc] 29) :
    Calls Try.prog 67 #[.slice A n c, .pointer (some ⟨g, 0, none⟩)] w fun e w' => e = .returned (.bool (eqBs ds bs)) ∧ w = w' := by
  have HQ := Lib.hid (eqb_any A D n dn c dc bs ds w ha hb)
  have x0 := hg.cell
  clear ha hb
  go_enter Try.func67, Try.ntmps67
  go_wp2_with fail
  refine HQ.out.mono ?_
  rintro e w1 ⟨rfl, rfl⟩
  go_wp2
  go_ret
  exact ⟨rfl, rfl⟩
set_option maxRecDepth 100000 in
set_option maxHeartbeats 2000000 in
theorem idx_left (S : Nat → Prop) (ys : List (List UInt8)) (A : Option Addr) (c : Nat) (g : Nat) (D : Option Addr) (dn dc : Nat) (ds : List UInt8) (w : World) (hy : RdIn w S (.sl (.sl .byte)) ys [.slice A ys.length c]) (hd : Bs w D dn ds) (hgb : BoxOf w g #[.slice D dn dc] 29) :
    Calls Try.prog 74 #[.slice A ys.length c, .func (.func 67) #[] #[.pointer (some ⟨g, 0, none⟩)]] w fun e w' => AtIs (SomeIs (eqBs ds) ys) e ∧ Below w.heap.size w w' := by
  have HY := Lib.hid hy
  have HYM := Lib.hid (val_max hy)
  have HLE : Hid (∀ w', Below w.heap.size w w' → ∀ (A : Option Addr) (n c : Nat) (bs : List UInt8), Bs w' A n bs → Calls Try.prog 67 #[.slice A n c, .pointer (some ⟨g, 0, none⟩)] w' fun e w'' => e = .returned (.bool (eqBs ds bs)) ∧ w' = w'') := fun w' bb A n c bs hb => left1_any A n c bs g D dn dc ds w' hb (hd.below bb) (hgb.next bb)
  clear hy
  go_enter Try.func74, Try.ntmps74
  go_upto_region 1 with fail
  obtain ⟨W, hW⟩ : ∃ z : World, z = w := ⟨_, rfl⟩
  have b0 : Below W.heap.size W w := by rw [hW]; exact Below.refl _ _
  have HWW := Lib.hid hW
  rw [← hW] at HY
  clear hW
  go_wp2
  go_loopw [5, 8] (fun v i wr => ∃ (j : Nat), j ≤ ys.length ∧ i = .int .i64 j ∧ Below W.heap.size W wr ∧ Hid (∀ i, i < j → NotAt (eqBs ds) ys i)) (fun _ i _ => ys.length - (intOf i).toNat)
  case atStart => exact ⟨0, by omega, rfl, b0, fun i h => absurd h (Nat.not_lt_zero _)⟩
  case round =>
    obtain ⟨j, hj, rfl, b1, HA⟩ := hrel
    clear b0
    have bw : Below w.heap.size w wr := by have := HWW.out; subst this; exact b1
    by_cases hlt : j < ys.length
    · obtain ⟨b, off, A5, c5, rfl, q5, r5⟩ := val_at (HY.out.below b1) hlt
      have HSK : Hid (NotAt (eqBs ds) ys j ↔ (eqBs ds) ys[j] = false) := ⟨fun h => h hlt, fun h _ => h⟩
      have HSY : Hid ((eqBs ds) ys[j] = true → SomeIs (eqBs ds) ys) := fun h => ⟨j, hlt, h⟩
      generalize ys[j] = bs at *
      have HWJ := next_wrap HYM.out hlt
      have HLJ := Lib.hid hlt
      have HR5 := Lib.hid r5
      clear r5
      rcases Bool.eq_false_or_eq_true ((eqBs ds) bs) with e1 | e1
      · have HF := Lib.hid (HSY.out e1)
        skip
        go_wp2_with (go_at_call 67; refine (HLE.out _ bw _ _ _ _ HR5.out.bytes_bs).mono ?_; rintro e w3 ⟨rfl, rfl⟩)
        go_ret
        exact ⟨AtIs.at HF.out, bw⟩
      · have HA' : Hid (∀ i, i < j + 1 → NotAt (eqBs ds) ys i) := by
          intro i hi
          by_cases h : i = j
          · subst h
            exact HSK.out.2 e1
          · exact HA.out i (by omega)
        skip
        go_wp2_with (go_at_call 67; refine (HLE.out _ bw _ _ _ _ HR5.out.bytes_bs).mono ?_; rintro e w3 ⟨rfl, rfl⟩)
        go_roundw
        case rel => exact ⟨j + 1, HLJ.out, by first | exact round_same HWJ | go_num, b1, HA'⟩
        case measure => first | exact round_less HWJ HLJ.out | (have h := HLJ.out; simp [intOf]; omega)
    · have HN := Lib.hid (SomeIs.not HA.out hlt)
      go_wp2
      go_ret
      exact ⟨AtIs.not HN.out, bw⟩
theorem has_left (S : Nat → Prop) (ys : List (List UInt8)) (A : Option Addr) (c : Nat) (g : Nat) (D : Option Addr) (dn dc : Nat) (ds : List UInt8) (w : World) (hy : RdIn w S (.sl (.sl .byte)) ys [.slice A ys.length c]) (hd : Bs w D dn ds) (hgb : BoxOf w g #[.slice D dn dc] 29) :
    Calls Try.prog 42 #[.slice A ys.length c, .func (.func 67) #[] #[.pointer (some ⟨g, 0, none⟩)]] w fun e w' => YesNo (SomeIs (eqBs ds) ys) e ∧ Below w.heap.size w w' := by
  have HC := Lib.hid (idx_left S ys A c g D dn dc ds w hy hd hgb)
  clear hy hd hgb
  go_enter Try.func42, Try.ntmps42
  go_wp2_with fail
  refine HC.out.mono ?_
  rintro e w1 ⟨⟨n, rfl, hn⟩, b1⟩
  have HN := Lib.hid hn
  clear hn
  go_wp2
  go_ret
  exact ⟨YesNo.of (by rw [decide_eq_true_iff]; exact HN.out), b1⟩
end Go.Proofs.Ytclbihcggjjgaaa
/- Layer 2 (pack): a block of 128 bytes in a box; whole, fits, Put, Take: what they compute. -/
namespace Go.Proofs.Ytclbihcggjjgaaa
open Go.RowKit

def zeros : List UInt8 := List.replicate 128 0
theorem zeros_len : zeros.length = 128 := by simp [zeros]
end Go.Proofs.Ytclbihcggjjgaaa
/- Layer 2 (pack): fits, Put, Take. -/
namespace Go.Proofs.Ytclbihcggjjgaaa
open Go.RowKit

def Fits (p k : Int) : Prop := 1 ≤ k ∧ k ≤ 4 ∧ 0 ≤ p ∧ p ≤ 128 - k
instance (p k : Int) : Decidable (Fits p k) := by unfold Fits; infer_instance
end Go.Proofs.Ytclbihcggjjgaaa
/- The plain law of the sums: linear over exclusive or; no program in sight. -/
namespace Go.Proofs.Ytclbihcggjjgaaa
namespace Crc

def tab : Array Nat := #[0x00000000, 0x105ec76f, 0x20bd8ede, 0x30e349b1, 0x417b1dbc, 0x5125dad3, 0x61c69362, 0x7198540d,
  0x82f63b78, 0x92a8fc17, 0xa24bb5a6, 0xb21572c9, 0xc38d26c4, 0xd3d3e1ab, 0xe330a81a, 0xf36e6f75]
def W (i : Nat) : Nat := tab.getD i 0
def T (s : Nat) : Nat := (s >>> 4) ^^^ W (s &&& 15)
def step (s : Nat) (x : UInt8) : Nat := T (T (s ^^^ x.toNat))
def run (s : Nat) (l : List UInt8) : Nat := l.foldl step s
def top : Nat := 4294967295
def neg (s : Nat) : Nat := top ^^^ s
def over (s : Nat) (l : List UInt8) : Nat := neg (run (neg s) l)
/-- the bytes of a number, the lowest first, from that number on, end at nought -/
def own (s : Nat) : List UInt8 := [UInt8.ofNat s, UInt8.ofNat (s / 256), UInt8.ofNat (s / 65536), UInt8.ofNat (s / 16777216)]
/-! the bit by bit form -/
end Crc
end Go.Proofs.Ytclbihcggjjgaaa
/- The reference of layer 2 (freeboardref02): what its functions compute. -/
namespace Go.Proofs.Ytclbihcggjjgaaa
open Go.RowKit

/-- an own row of 128 bytes -/
def Own (w : World) (B g : Nat) (l : List UInt8) : Prop := w.ownsRow B 5 1 (.slice (some ⟨g, 0, none⟩) 128 128) 128 (l.map byteV)
theorem Own.set {w : World} {B g : Nat} {l : List UInt8} (h : Own w B g l) (j : Nat) (b : UInt8) : Own (w.setCell ⟨g, j, none⟩ (byteV b)) B g (l.set j b) := by
  have st := World.ownsRow.stored h j (byteV b)
  rw [← List.map_set] at st
  exact st.1
theorem Own.len {w : World} {B g : Nat} {l : List UInt8} (h : Own w B g l) : l.length = 128 := by have := h.1; simpa using this
theorem Own.cell {w : World} {B g : Nat} {l : List UInt8} (h : Own w B g l) (j : Nat) (hj : j < 128) : w.cell? ⟨g, j, none⟩ = some (.int .u8 ((l.getD j 0).toNat : Int)) := by
  rw [World.ownsRow.cellAt h j hj]
  simp [byteV, show j < l.length by rw [h.len]; exact hj]
theorem Own.bs {w : World} {B g : Nat} {l : List UInt8} (h : Own w B g l) : Bs w (some ⟨g, 0, none⟩) 128 l := Bs.of_ownS h
theorem made_zeros : (madeCells (Value.int .u8 0).cells (128 * 1)).toList = zeros.map byteV := by
  show (madeCells #[Value.int .u8 0] (128 * 1)).toList = _
  rw [toList_madeCells_one]
  simp [zeros, byteV]
end Go.Proofs.Ytclbihcggjjgaaa
/- The references' blocks: bytes and noughts, four bytes of a number, a block with its sum. -/
namespace Go.Proofs.Ytclbihcggjjgaaa
open Go Go.RowKit
set_option linter.unusedSimpArgs false
set_option linter.unusedVariables false

/-! ### appends of bytes -/
theorem BoxOf.below {w w' : World} {B g : Nat} {cs : Array Value} {t : TypeId} (h : BoxOf w g cs t) (hb : Below B w w') (hg : g < B) : BoxOf w' g cs t := by
  unfold BoxOf at *
  rw [hb.block g hg]; exact h
def OB (w : World) (base : Nat) (v : Value) (n : Nat) (bs : List UInt8) : Prop := w.ownsRow base 5 1 v n (bs.map byteV)
theorem OB.next {w w' : World} {base : Nat} {v : Value} {n : Nat} {bs : List UInt8} (h : OB w base v n bs) (hb : Below w.heap.size w w') : OB w' base v n bs := own_next h hb
theorem OB.bs {w : World} {base : Nat} {v : Value} {n : Nat} {bs : List UInt8} (h : OB w base v n bs) : ∃ A c, v = .slice A n c ∧ Bs w A n bs := by
  obtain ⟨A, c, rfl, _, hb⟩ := Bs.of_own h
  exact ⟨A, c, rfl, hb⟩
theorem OB.nil (w : World) (base : Nat) : OB w base (.slice none 0 0) 0 [] := ⟨rfl, .inl ⟨rfl, rfl⟩⟩
theorem BoxOf.out {w : World} {g : Nat} {cs : Array Value} {t : TypeId} (h : BoxOf w g cs t) (o : Nat) (v : Value) (hv : cs.toList[o]? = some v) : w.cell? ⟨g, o, none⟩ = some v := (h.cell o).trans hv
end Go.Proofs.Ytclbihcggjjgaaa
/- Layer 30 (model): the program: copies of bytes; what a request writes. -/
namespace Go.Proofs.Ytclbihcggjjgaaa
open Go Go.RowKit
set_option linter.unusedSimpArgs false
set_option linter.unusedVariables false

theorem flat_ones (bs : List UInt8) : (bs.map fun b => [byteV b]).flatten = bs.map byteV := by
  induction bs with
  | nil => rfl
  | cons a l ih => rw [List.map_cons, List.flatten_cons, ih]; rfl
theorem OwnL.of_bytes {w : World} {base : Nat} {tid : TypeId} {v : Value} {bs : List UInt8} (h : w.ownsRow base tid 1 v bs.length (bs.map byteV)) : OwnL w base tid .byte v bs := by
  refine ⟨bs.map fun b => [byteV b], List.length_map _, fun i h h' => ?_, ?_⟩
  · rw [List.getElem_map]
    exact rdin_byte.2 rfl
  · rw [flat_ones]
    exact h
theorem OwnL.bytes_rdin {w : World} {base : Nat} {tid : TypeId} {v : Value} {bs : List UInt8} (h : OwnL w base tid .byte v bs) (hz : bs.length ≤ 140737488355328) : RdIn w (NewB base w) (.sl .byte) bs [v] :=
  OwnL.rdin h (by show bs.length * 1 ≤ _; omega)
theorem rdin_nilb {w : World} {S : Nat → Prop} {c : Nat} (hc : c ≤ maxLen) (A : Option Addr) : RdIn w S (.sl .byte) [] [.slice A 0 c] := rdin_sl.2 ⟨A, c, rfl, by simp, hc, by simp, .inl rfl⟩
theorem rdin_bmax {w : World} {S : Nat → Prop} {bs : List UInt8} {v : Value} (h : RdIn w S (.sl .byte) bs [v]) : bs.length ≤ 140737488355328 := by
  obtain ⟨_, _, _, _, _, h1, _⟩ := rdin_sl.1 h
  have h2 : bs.length * 1 ≤ 140737488355328 := h1
  omega
theorem eqn_none (w : World) (n c : Nat) : (binOp .eql 29 (.slice none n c) (.slice none 0 0)).run Try.prog w = .ok (.bool true) w := by kernel_rfl
theorem eqn_some (w : World) (a : Addr) (n c : Nat) : (binOp .eql 29 (.slice (some a) n c) (.slice none 0 0)).run Try.prog w = .ok (.bool false) w := by kernel_rfl
set_option maxRecDepth 100000 in
set_option maxHeartbeats 1000000 in
theorem clone_any (S : Nat → Prop) (bs : List UInt8) (A : Option Addr) (c : Nat) (w : World) (h : RdIn w S (.sl .byte) bs [.slice A bs.length c]) :
    Calls Try.prog 44 #[.slice A bs.length c] w fun e w' => (∃ v, e = .returned v ∧ RdIn w' (NewB w.heap.size w') (.sl .byte) bs [v]) ∧ Below w.heap.size w w' := by
  obtain ⟨i0, hi, hz0, hz1, hz2⟩ := minfo_u8
  have hbs := h.bytes_bs
  have hbm := rdin_bmax h
  have HM := Lib.hid (And.intro (byte_max h) hbm)
  cases A with
  | none =>
    have hb0 : bs = [] := by
      rcases hbs.2 with h0 | ⟨b, off, e, _⟩
      · simpa using h0
      · cases e
    subst hb0
    have HE := fun (w : World) (c : Nat) => eqn_none w 0 c
    clear h hbs hbm
    go_enter Try.func44, Try.ntmps44
    go_wp2
    go_ret
    exact ⟨⟨_, rfl, rdin_nilb (by unfold maxLen; omega) _⟩, Below.refl _ _⟩
  | some a =>
    have t0 := Ext.alloc (Below.refl w.heap.size w) (.cells #[] 5)
    have hrd : Rd (w.alloc (.cells #[] 5)) (some a) (bs.map byteV) := (hbs.alloc _).2
    have own0 : (w.alloc (.cells #[] 5)).ownsRow w.heap.size 5 1 (.slice (some ⟨w.heap.size, 0, none⟩) 0 0) 0 [] := ⟨rfl, .inr ⟨w.heap.size, 0, #[], rfl, Nat.le_refl _, heap_alloc_new _ _, Nat.le_refl _, by unfold maxLen; omega, rfl, rfl⟩⟩
    have HE := fun (w : World) (n c : Nat) => eqn_some w a n c
    clear h hbs hbm
    go_enter Try.func44, Try.ntmps44
    go_upto_region 3 with fail
    go_wp2_with (at_builtin; (refine wpList_append_rd _ rfl (.tmp 5) (.tmp 6) 29 rfl w.heap.size 5 i0 _ 1 1 Try.underlying29 hi hz0 hz1 hz2 rfl (by decide) _ 0 [] rfl own0 (some a) bs.length c (bs.map byteV) rfl (by simp) hrd (by intro u hu; rw [List.mem_map] at hu; obtain ⟨y, _, rfl⟩ := hu; rfl) (by have := HM.out.1; omega) (by have := HM.out.2; omega) (by simp) ?_); intro v1 w1 h2 h3 h4)
    have O1 : OwnL w1 w.heap.size 5 .byte v1 bs := OwnL.of_bytes (by rw [Nat.zero_add, List.nil_append] at h2; exact h2)
    have b1 := Below.grown t0 h3 (by simp) (fun k e => by cases e; exact Nat.le_refl _)
    go_ret
    exact ⟨⟨_, rfl, O1.bytes_rdin HM.out.2⟩, b1⟩

/-! ### what a request writes -/
def part128 (bs : List UInt8) (i : Nat) : List UInt8 := (bs.drop (i * 128)).take 128
theorem part128_len {bs : List UInt8} {i : Nat} (h : i * 128 + 128 ≤ bs.length) : (part128 bs i).length = 128 := by
  unfold part128
  rw [List.length_take, List.length_drop]; omega
theorem part128_get {bs : List UInt8} {i : Nat} (h : i * 128 + 128 ≤ bs.length) {q : Nat} (hq : q < (part128 bs i).length) : (part128 bs i)[q] = bs[i * 128 + q]'(by rw [part128_len h] at hq; omega) := by
  simp only [part128, List.getElem_take, List.getElem_drop]
def blk (k : Int) (bs : List UInt8) (i : Nat) : List UInt8 := if kBytes k then part128 bs i else zeros
theorem RdIn.part {w : World} {S : Nat → Prop} {bs : List UInt8} {b off c : Nat} (h : RdIn w S (.sl .byte) bs [.slice (some ⟨b, off, none⟩) bs.length c]) {i : Nat} (hi : i * 128 + 128 ≤ bs.length) :
    RdIn w S (.sl .byte) (part128 bs i) [.slice (some ⟨b, off + i * 128, none⟩) (part128 bs i).length (c - i * 128)] := by
  obtain ⟨A', c', e, hn, hm, hz, hh⟩ := rdin_sl.1 h
  have e' := (List.cons.inj e).1
  injection e' with e1 e2 e3
  subst e3
  have hl := part128_len hi
  have hn' : bs.length ≤ c := hn
  have hz' : bs.length * 1 ≤ 140737488355328 := hz
  refine rdin_sl.2 ⟨_, _, rfl, ?_, ?_, ?_, ?_⟩
  · show (part128 bs i).length ≤ _; omega
  · omega
  · show (part128 bs i).length * 1 ≤ _; omega
  · rcases hh with hh | ⟨b', off', e5, hS, hc⟩
    · exfalso
      have : bs = [] := hh
      rw [this] at hi
      simp at hi
    · rw [← e1] at e5
      injection e5 with e5
      injection e5 with e51 e52
      subst e51 e52
      refine .inr ⟨b, off + i * 128, rfl, hS, fun q hq => ?_⟩
      have hq' : q < (part128 bs i).length := hq
      obtain ⟨es, h1, h2⟩ := hc (i * 128 + q) (show i * 128 + q < bs.length by omega)
      refine ⟨es, fun j hj => ?_, ?_⟩
      · have h3 := h1 j hj
        have hj0 : j = 0 := by have : j < 1 := hj; omega
        subst hj0
        have e7 : off + (i * 128 + q) * Ty.size .byte + 0 = off + i * 128 + q * Ty.size .byte + 0 := by show off + (i * 128 + q) * 1 + 0 = off + i * 128 + q * 1 + 0; omega
        rw [e7] at h3
        exact h3
      · have e9 := rdin_byte.1 h2
        refine rdin_byte.2 ?_
        rw [e9]
        exact congrArg (fun z => [byteV z]) (part128_get hi hq').symm
/-- what 'writes' answers -/
def WrIs (base : Nat) (k : Int) (bs : List UInt8) (i : Nat) (e : Ending) (w : World) : Prop := ∃ D n q, e = .returned (.tuple #[.slice D n q, .bool (kWrites k)]) ∧ (kWrites k = true → RdIn w (NewB base w) (.sl .byte) (blk k bs i) [.slice D n q])
theorem bytesV {w : World} {S : Nat → Prop} {bs : List UInt8} {v : Value} (h : RdIn w S (.sl .byte) bs [v]) : ∃ A c, v = .slice A bs.length c := by
  obtain ⟨A, c, e, _⟩ := h.bytes
  exact ⟨A, c, e⟩
set_option maxRecDepth 100000 in
set_option maxHeartbeats 1000000 in
theorem swrites_any (S : Nat → Prop) (k a y : Int) (bs : List UInt8) (A : Option Addr) (c : Nat) (i : Nat) (w : World) (h : RdIn w S (.sl .byte) bs [.slice A bs.length c]) (hb : kBytes k = true → i * 128 + 128 ≤ bs.length) (hi : i < 1000) :
    Calls Try.prog 69 #[.agg #[.int .u8 k, .int .i64 a, .int .i64 y, .slice A bs.length c], .int .i64 (i : Int)] w fun e w' => WrIs w.heap.size k bs i e w' ∧ Below w.heap.size w w' := by
  by_cases h23 : k = 2 ∨ k = 3
  · have hkb : kBytes k = true := decide_eq_true h23
    have hkw : kWrites k = true := decide_eq_true (by omega)
    have hbl := hb hkb
    obtain ⟨b, off, hA⟩ : ∃ b off, A = some ⟨b, off, none⟩ := by
      rcases h.bytes_bs.2 with h0 | ⟨b, off, e, _⟩
      · have : bs = [] := by simpa using h0
        rw [this] at hbl
        simp at hbl
      · exact ⟨b, off, e⟩
    subst hA
    have hcl : bs.length ≤ c := by obtain ⟨_, c', e, hn, _⟩ := rdin_sl.1 h; injection e with e _; injection e with _ _ e3; rw [e3]; exact hn
    have hp := h.part hbl
    have hblk : Hid (blk k bs i = part128 bs i) := by show _ = _; unfold blk; rw [if_pos hkb]
    have hl := part128_len hbl
    generalize part128 bs i = ds at *
    have hw1 : wrap64 ((i : Int) * 128) = ((i * 128 : Nat) : Int) := by rw [IntWalk.wrap64_in _ (by omega)]; omega
    have hw2 : wrap64 ((i : Int) + 1) = ((i + 1 : Nat) : Int) := by rw [IntWalk.wrap64_in _ (by omega)]; omega
    have hw3 : wrap64 (((i + 1 : Nat) : Int) * 128) = ((i * 128 + 128 : Nat) : Int) := by rw [IntWalk.wrap64_in _ (by omega)]; omega
    have HC : Hid (∀ w', Below w.heap.size w w' → Calls Try.prog 44 #[.slice (some ⟨b, off + i * 128, none⟩) ((i + 1) * 128 - i * 128) (c - i * 128)] w' fun e w'' => (∃ v, e = .returned v ∧ RdIn w'' (NewB w'.heap.size w'') (.sl .byte) ds [v]) ∧ Below w'.heap.size w' w'') := fun w' bb => by
      have h9 := clone_any S ds _ _ w' (hp.below bb)
      rw [show (i + 1) * 128 - i * 128 = ds.length by omega]
      exact h9
    have HW := Lib.hid hkw
    clear h hb hkb hkw hp
    have t0 := Ext.alloc (Below.refl w.heap.size w) (.cells #[.int .u8 k, .int .i64 a, .int .i64 y, .slice (some ⟨b, off, none⟩) bs.length c] 58)
    have P0 := BoxOf.new w #[.int .u8 k, .int .i64 a, .int .i64 y, .slice (some ⟨b, off, none⟩) bs.length c] 58
    rcases Bool.eq_false_or_eq_true (k == 2) with e2 | e2
    · clear h23
      go_enter Try.func69, Try.ntmps69
      go_upto_region 1 with fail
      generalize w.alloc (.cells #[.int .u8 k, .int .i64 a, .int .i64 y, .slice (some ⟨b, off, none⟩) bs.length c] 58) = W at *
      have x0 := P0.cell
      go_wp2_with fail
      refine (HC.out _ t0).mono ?_
      rintro e w1 ⟨⟨v, rfl, r1⟩, b1⟩
      have b2 := Ext.trans t0 b1
      have hbw := t0.size
      obtain ⟨D, q, rfl⟩ := bytesV r1
      rw [hl] at r1
      have R1 := Lib.hid r1
      clear r1
      go_wp2
      go_ret2
      exact ⟨⟨D, _, q, by rw [HW.out]; try rfl, fun _ => by rw [hblk.out]; exact R1.out.mono fun b hb => ⟨Nat.le_trans hbw hb.1, hb.2⟩⟩, b2⟩
    · have e3 : (k == 3) = true := by have : k ≠ 2 := by simpa using e2
                                      simp; omega
      clear h23
      go_enter Try.func69, Try.ntmps69
      go_upto_region 1 with fail
      generalize w.alloc (.cells #[.int .u8 k, .int .i64 a, .int .i64 y, .slice (some ⟨b, off, none⟩) bs.length c] 58) = W at *
      have x0 := P0.cell
      go_wp2_with fail
      refine (HC.out _ t0).mono ?_
      rintro e w1 ⟨⟨v, rfl, r1⟩, b1⟩
      have b2 := Ext.trans t0 b1
      have hbw := t0.size
      obtain ⟨D, q, rfl⟩ := bytesV r1
      rw [hl] at r1
      have R1 := Lib.hid r1
      clear r1
      go_wp2
      go_ret2
      exact ⟨⟨D, _, q, by rw [HW.out]; try rfl, fun _ => by rw [hblk.out]; exact R1.out.mono fun b hb => ⟨Nat.le_trans hbw hb.1, hb.2⟩⟩, b2⟩
  · have hkb : kBytes k = false := decide_eq_false h23
    have hblk : Hid (blk k bs i = zeros) := by show _ = _; unfold blk; rw [hkb]; rfl
    have e2 : (k == 2) = false := by simp; omega
    have e3 : (k == 3) = false := by simp; omega
    clear h hb hkb
    rcases Bool.eq_false_or_eq_true (k == 5) with e5 | e5
    · obtain ⟨i0, hi0, hz0, hz1, hz2⟩ := minfo_u8
      have HW : Hid (kWrites k = true) := decide_eq_true (by have : k = 5 := by simpa using e5
                                                             omega)
      clear h23
      have t0 := Ext.alloc (Below.refl w.heap.size w) (.cells #[.int .u8 k, .int .i64 a, .int .i64 y, .slice A bs.length c] 58)
      have P0 := BoxOf.new w #[.int .u8 k, .int .i64 a, .int .i64 y, .slice A bs.length c] 58
      go_enter Try.func69, Try.ntmps69
      go_upto_region 1 with fail
      generalize w.alloc (.cells #[.int .u8 k, .int .i64 a, .int .i64 y, .slice A bs.length c] 58) = W at *
      have x0 := P0.cell
      go_wp2_with (refine wpList_make_full W rfl (.const (.int .i64 128)) (.const (.int .i64 128)) 29 rfl W.heap.size 5 i0 (.int .u8 0) 1 Try.underlying29 hi0 hz0 hz1 .i64 .i64 128 128 128 rfl rfl rfl rfl (by rw [hz2]; omega) (by unfold maxLen; omega) (Nat.le_refl _) ?_; intro w2 own2 g2; rw [made_zeros] at own2; have b2 := Ext.grown (Below.refl _ _) g2 (by simp))
      go_ret2
      have hbw := t0.size
      have RO := (OwnL.of_bytes (bs := zeros) (by rw [zeros_len]; exact own2)).bytes_rdin (by rw [zeros_len]; decide)
      exact ⟨⟨_, 128, _, by rw [HW.out]; try rfl, fun _ => by rw [hblk.out]; exact RO.mono fun b hb => ⟨Nat.le_trans hbw hb.1, hb.2⟩⟩, Ext.trans t0 b2⟩
    · have HW : Hid (kWrites k = false) := decide_eq_false (by have : k ≠ 5 := by simpa using e5
                                                               omega)
      clear h23
      have t0 := Ext.alloc (Below.refl w.heap.size w) (.cells #[.int .u8 k, .int .i64 a, .int .i64 y, .slice A bs.length c] 58)
      have P0 := BoxOf.new w #[.int .u8 k, .int .i64 a, .int .i64 y, .slice A bs.length c] 58
      go_enter Try.func69, Try.ntmps69
      go_upto_region 1 with fail
      generalize w.alloc (.cells #[.int .u8 k, .int .i64 a, .int .i64 y, .slice A bs.length c] 58) = W at *
      have x0 := P0.cell
      go_wp2
      go_ret2
      exact ⟨⟨none, 0, 0, by rw [HW.out]; try rfl, fun h => by rw [HW.out] at h; cases h⟩, t0⟩
end Go.Proofs.Ytclbihcggjjgaaa
/- Layer 30 (model): the program: whether a crash may leave a value. -/
namespace Go.Proofs.Ytclbihcggjjgaaa
open Go Go.RowKit
set_option linter.unusedSimpArgs false
set_option linter.unusedVariables false

/-- does a request that goes on write that there? -/
def hitB (n : Int) (ds : List UInt8) (g : GoTy.T) : Bool := (decide (atOf g ≤ n) && decide (n < atOf g + manyOf g)) && (kWrites ((kiOf g).toNat : Int) && (blk ((kiOf g).toNat : Int) (datOf g) (n - atOf g).toNat == ds))
def AskFit (g : GoTy.T) : Prop := ((0 ≤ atOf g ∧ atOf g ≤ 1000) ∧ (0 ≤ manyOf g ∧ manyOf g ≤ 8)) ∧ ((datOf g).length : Int) = kWant ((kiOf g).toNat : Int) (manyOf g)
theorem AskFit.of {x : Cfg} {ys : List (List (List UInt8))} {g : GoTy.T} (h : OneOk x ys g) : AskFit g := by
  obtain ⟨_, h, _⟩ := h
  obtain ⟨_, _, h1, h2, h3, _⟩ := askCode_0 h
  exact ⟨⟨h3, h2⟩, h1⟩

set_option maxRecDepth 100000 in
set_option maxHeartbeats 1000000 in
theorem left2_any (S : Nat → Prop) (g : GoTy.T) (hfit : AskFit g) (n : Int) (hn : 0 ≤ n ∧ n ≤ 1000) (Ab : Option Addr) (cg : Nat) (Am : Option Addr) (lm cm gb gd : Nat) (D : Option Addr) (dn dc : Nat) (ds : List UInt8) (w : World) (hb : RdIn w S (.sl .byte) (datOf g) [.slice Ab (datOf g).length cg]) (hd : Bs w D dn ds) (B1 : BoxOf w gb #[.int .i64 n] 3) (B2 : BoxOf w gd #[.slice D dn dc] 29) :
    Calls Try.prog 68 #[.agg #[.int .i64 (nuOf g), .int .u8 ((kiOf g).toNat : Int), .int .i64 (atOf g), .int .i64 (manyOf g), .slice Ab (datOf g).length cg, .slice Am lm cm], .pointer (some ⟨gb, 0, none⟩), .pointer (some ⟨gd, 0, none⟩)] w fun e w' => e = .returned (.bool (hitB n ds g)) ∧ Below w.heap.size w w' := by
  have P0 := BoxOf.new w #[.int .i64 (nuOf g), .int .u8 ((kiOf g).toNat : Int), .int .i64 (atOf g), .int .i64 (manyOf g), .slice Ab (datOf g).length cg, .slice Am lm cm] 64
  have t0 := Ext.alloc (Below.refl w.heap.size w) (.cells #[.int .i64 (nuOf g), .int .u8 ((kiOf g).toNat : Int), .int .i64 (atOf g), .int .i64 (manyOf g), .slice Ab (datOf g).length cg, .slice Am lm cm] 64)
  have C1 := B1.alloc (.cells #[.int .i64 (nuOf g), .int .u8 ((kiOf g).toNat : Int), .int .i64 (atOf g), .int .i64 (manyOf g), .slice Ab (datOf g).length cg, .slice Am lm cm] 64)
  have C2 := B2.alloc (.cells #[.int .i64 (nuOf g), .int .u8 ((kiOf g).toNat : Int), .int .i64 (atOf g), .int .i64 (manyOf g), .slice Ab (datOf g).length cg, .slice Am lm cm] 64)
  have HB := Lib.hid (hb.below t0)
  have HD := Lib.hid (hd.alloc (.cells #[.int .i64 (nuOf g), .int .u8 ((kiOf g).toNat : Int), .int .i64 (atOf g), .int .i64 (manyOf g), .slice Ab (datOf g).length cg, .slice Am lm cm] 64))
  clear hb hd B1 B2
  obtain ⟨⟨⟨ha0, ha1⟩, hm0, hm1⟩, hlen⟩ := hfit
  go_enter Try.func68, Try.ntmps68
  go_upto_region 1 with fail
  generalize w.alloc (.cells #[.int .i64 (nuOf g), .int .u8 ((kiOf g).toNat : Int), .int .i64 (atOf g), .int .i64 (manyOf g), .slice Ab (datOf g).length cg, .slice Am lm cm] 64) = W at *
  have x0 := P0.cell
  have y1 := C1.cell
  have y2 := C2.cell
  rcases Bool.eq_false_or_eq_true (decide (n - atOf g < 0)) with e1 | e1
  · have hr : hitB n ds g = false := by unfold hitB; rw [decide_eq_false (show ¬ atOf g ≤ n by have := of_decide_eq_true e1; omega)]; rfl
    have hw : wrap64 (n - atOf g) = n - atOf g := IntWalk.wrap64_in _ (by omega)
    clear hn ha0 ha1 hm0 hm1
    go_wp2
    go_ret
    exact ⟨by first | rfl | (rw [hr]; rfl), t0⟩
  · obtain ⟨i, hi⟩ : ∃ i : Nat, (i : Int) = n - atOf g := ⟨(n - atOf g).toNat, by have := of_decide_eq_false e1; omega⟩
    have hw : wrap64 (n - atOf g) = (i : Int) := by rw [hi]; exact IntWalk.wrap64_in _ (by omega)
    have hti : (n - atOf g).toNat = i := by omega
    have HI := Lib.hid hi
    have HTI := Lib.hid hti
    have hi1 : i < 1000 ∨ 1000 ≤ i := by omega
    rcases Bool.eq_false_or_eq_true (decide (manyOf g ≤ (i : Int))) with e2 | e2
    · have hr : hitB n ds g = false := by
        have h1 := of_decide_eq_true e2
        unfold hitB; rw [decide_eq_false (show ¬ n < atOf g + manyOf g by omega)]; simp
      clear hn ha0 ha1 hm0 hm1 hi hti e1 hi1
      go_wp2
      go_ret
      exact ⟨by first | rfl | (rw [hr]; rfl), t0⟩
    · have h2 := of_decide_eq_false e2
      have h1 := of_decide_eq_false e1
      have hi9 : i < 1000 := by omega
      have hbk : kBytes ((kiOf g).toNat : Int) = true → i * 128 + 128 ≤ (datOf g).length := by
        intro hk
        unfold kWant at hlen
        rw [hk] at hlen
        simp only [if_true] at hlen
        omega
      have HC := Lib.hid (swrites_any S _ (atOf g) (manyOf g) (datOf g) Ab cg i W HB.out hbk hi9)
      have hr : Hid (hitB n ds g = (kWrites ((kiOf g).toNat : Int) && (blk ((kiOf g).toNat : Int) (datOf g) i == ds))) := by
        show _ = _
        unfold hitB
        rw [HTI.out, decide_eq_true (show atOf g ≤ n by omega), decide_eq_true (show n < atOf g + manyOf g by omega)]
        rfl
      clear hn ha0 ha1 hm0 hm1 hi hti e1 hi1 h1 h2 hlen hbk hi9
      go_wp2_with fail
      refine HC.out.mono ?_
      rintro e w1 ⟨⟨E, en, eq, rfl, hR⟩, b1⟩
      have z1 := (P0.next b1).cell
      have z2 := (C2.next b1).cell
      have HD1 := Lib.hid (HD.out.below b1)
      have t1 := Ext.trans t0 b1
      cases hkw : kWrites ((kiOf g).toNat : Int) with
      | false =>
        have hr' : hitB n ds g = false := by rw [hr.out, hkw]; rfl
        clear hkw hr hR
        go_wp2
        go_ret
        exact ⟨by first | rfl | (rw [hr']; rfl), t1⟩
      | true =>
        have hr' : Hid (hitB n ds g = (blk ((kiOf g).toNat : Int) (datOf g) i == ds)) := by show _ = _; rw [hr.out, hkw]; simp
        have HE := Lib.hid (eqb_any E D en dn eq dc _ ds w1 (hR hkw).bytes_bs HD1.out)
        clear hkw hr hR
        go_wp2_with fail
        refine HE.out.mono ?_
        rintro e w2 ⟨rfl, rfl⟩
        go_wp2
        go_ret
        exact ⟨by rw [hr'.out]; rfl, t1⟩

set_option maxRecDepth 100000 in
set_option maxHeartbeats 2000000 in
theorem idxg_left (S : Nat → Prop) (gs : List GoTy.T) (B : Option Addr) (d : Nat) (n : Int) (hn : 0 ≤ n ∧ n ≤ 1000) (gb gd : Nat) (D : Option Addr) (dn dc : Nat) (ds : List UInt8) (w : World) (hg : RdIn w S (.sl GoTy) gs [.slice B gs.length d]) (hd : Bs w D dn ds) (B1 : BoxOf w gb #[.int .i64 n] 3) (B2 : BoxOf w gd #[.slice D dn dc] 29) (hfit : ∀ i (h : i < gs.length), AskFit gs[i]) :
    Calls Try.prog 56 #[.slice B gs.length d, .func (.func 68) #[] #[.pointer (some ⟨gb, 0, none⟩), .pointer (some ⟨gd, 0, none⟩)]] w fun e w' => AtIs (SomeIs (hitB n ds) gs) e ∧ Below w.heap.size w w' := by
  have HG := Lib.hid hg
  have HGM := Lib.hid (go_max hg)
  have HLE : Hid (∀ w', Below w.heap.size w w' → ∀ (g : GoTy.T) (Ab : Option Addr) (cg : Nat) (Am : Option Addr) (lm cm : Nat), AskFit g → RdIn w' S (.sl .byte) (datOf g) [.slice Ab (datOf g).length cg] → Calls Try.prog 68 #[.agg #[.int .i64 (nuOf g), .int .u8 ((kiOf g).toNat : Int), .int .i64 (atOf g), .int .i64 (manyOf g), .slice Ab (datOf g).length cg, .slice Am lm cm], .pointer (some ⟨gb, 0, none⟩), .pointer (some ⟨gd, 0, none⟩)] w' fun e w'' => e = .returned (.bool (hitB n ds g)) ∧ Below w'.heap.size w' w'') := fun w' bb g Ab cg Am lm cm hf hr => left2_any S g hf n hn Ab cg Am lm cm gb gd D dn dc ds w' hr (hd.below bb) (B1.next bb) (B2.next bb)
  clear hg
  go_enter Try.func56, Try.ntmps56
  go_upto_region 1 with fail
  obtain ⟨W, hW⟩ : ∃ z : World, z = w := ⟨_, rfl⟩
  have b0 : Below W.heap.size W w := by rw [hW]; exact Below.refl _ _
  have HWW := Lib.hid hW
  rw [← hW] at HG
  clear hW
  go_wp2
  go_loopw [5, 8] (fun v i wr => ∃ (j : Nat), j ≤ gs.length ∧ i = .int .i64 j ∧ Below W.heap.size W wr ∧ Hid (∀ i, i < j → NotAt (hitB n ds) gs i)) (fun _ i _ => gs.length - (intOf i).toNat)
  case atStart => exact ⟨0, by omega, rfl, b0, fun i h => absurd h (Nat.not_lt_zero _)⟩
  case round =>
    obtain ⟨j, hj, rfl, b1, HA⟩ := hrel
    clear b0
    have bw : Below w.heap.size w wr := by have := HWW.out; subst this; exact b1
    by_cases hlt : j < gs.length
    · obtain ⟨b, off, Ab, cg, Am, cm, rfl, q0, q1, q2, q3, q4, q5, i0, i1, i2, rb, rm⟩ := go_at (HG.out.below b1) hlt
      have HSK : Hid (NotAt (hitB n ds) gs j ↔ (hitB n ds) gs[j] = false) := ⟨fun h => h hlt, fun h _ => h⟩
      have HSY : Hid ((hitB n ds) gs[j] = true → SomeIs (hitB n ds) gs) := fun h => ⟨j, hlt, h⟩
      have HFG := Lib.hid (hfit j hlt)
      generalize gs[j] = g at *
      have HWJ := next_wrap HGM.out hlt
      have HLJ := Lib.hid hlt
      have HRB := Lib.hid rb
      clear rb rm i0 i1 i2
      rcases Bool.eq_false_or_eq_true ((hitB n ds) g) with e1 | e1
      · have HF := Lib.hid (HSY.out e1)
        skip
        go_wp2_with (go_at_call 68; refine (HLE.out _ bw _ _ _ _ _ _ HFG.out HRB.out).mono ?_; rintro e w3 ⟨rfl, b3⟩)
        go_ret
        exact ⟨AtIs.at HF.out, Ext.trans bw b3⟩
      · have HA' : Hid (∀ i, i < j + 1 → NotAt (hitB n ds) gs i) := by
          intro i hi
          by_cases h : i = j
          · subst h
            exact HSK.out.2 e1
          · exact HA.out i (by omega)
        skip
        go_wp2_with (go_at_call 68; refine (HLE.out _ bw _ _ _ _ _ _ HFG.out HRB.out).mono ?_; rintro e w3 ⟨rfl, b3⟩)
        have b5 := Ext.trans b1 b3
        go_roundw
        case rel => exact ⟨j + 1, HLJ.out, by first | exact round_same HWJ | go_num, b5, HA'⟩
        case measure => first | exact round_less HWJ HLJ.out | (have h := HLJ.out; simp [intOf]; omega)
    · have HN := Lib.hid (SomeIs.not HA.out hlt)
      go_wp2
      go_ret
      exact ⟨AtIs.not HN.out, bw⟩
theorem hasg_left (S : Nat → Prop) (gs : List GoTy.T) (B : Option Addr) (d : Nat) (n : Int) (hn : 0 ≤ n ∧ n ≤ 1000) (gb gd : Nat) (D : Option Addr) (dn dc : Nat) (ds : List UInt8) (w : World) (hg : RdIn w S (.sl GoTy) gs [.slice B gs.length d]) (hd : Bs w D dn ds) (B1 : BoxOf w gb #[.int .i64 n] 3) (B2 : BoxOf w gd #[.slice D dn dc] 29) (hfit : ∀ i (h : i < gs.length), AskFit gs[i]) :
    Calls Try.prog 60 #[.slice B gs.length d, .func (.func 68) #[] #[.pointer (some ⟨gb, 0, none⟩), .pointer (some ⟨gd, 0, none⟩)]] w fun e w' => YesNo (SomeIs (hitB n ds) gs) e ∧ Below w.heap.size w w' := by
  have HC := Lib.hid (idxg_left S gs B d n hn gb gd D dn dc ds w hg hd B1 B2 hfit)
  clear hg hd B1 B2 hfit hn
  go_enter Try.func60, Try.ntmps60
  go_wp2_with fail
  refine HC.out.mono ?_
  rintro e w1 ⟨⟨n, rfl, hn⟩, b1⟩
  have HN := Lib.hid hn
  clear hn
  go_wp2
  go_ret
  exact ⟨YesNo.of (by rw [decide_eq_true_iff]; exact HN.out), b1⟩

def LeftP (ys : List (List (List UInt8))) (gs : List GoTy.T) (n : Nat) (ds : List UInt8) : Prop := (∃ h : n < ys.length, SomeIs (eqBs ds) ys[n]) ∨ SomeIs (hitB n ds) gs
set_option maxRecDepth 100000 in
set_option maxHeartbeats 1000000 in
theorem sleft_any (S : Nat → Prop) (ys : List (List (List UInt8))) (gs : List GoTy.T) (A : Option Addr) (c : Nat) (B : Option Addr) (d : Nat) (n : Nat) (hn : n < ys.length) (hyl : ys.length ≤ 1000) (hfit : ∀ i (h : i < gs.length), AskFit gs[i]) (D : Option Addr) (dn dc : Nat) (ds : List UInt8) (w : World) (hy : RdIn w S (.sl (.sl (.sl .byte))) ys [.slice A ys.length c]) (hg : RdIn w S (.sl GoTy) gs [.slice B gs.length d]) (hd : Bs w D dn ds) :
    Calls Try.prog 39 #[.agg #[.slice A ys.length c, .slice B gs.length d], .int .i64 (n : Int), .slice D dn dc] w fun e w' => YesNo (LeftP ys gs n ds) e ∧ Below w.heap.size w w' := by
  have P0 := BoxOf.alloc (BoxOf.alloc (BoxOf.new w #[.slice A ys.length c, .slice B gs.length d] 28) (.cells #[.int .i64 (n : Int)] 3)) (.cells #[.slice D dn dc] 29)
  have B1 := BoxOf.alloc (BoxOf.new' (w.alloc (.cells #[.slice A ys.length c, .slice B gs.length d] 28)) (w.heap.size + 1) #[.int .i64 (n : Int)] 3 (by simp)) (.cells #[.slice D dn dc] 29)
  have B2 := BoxOf.new' ((w.alloc (.cells #[.slice A ys.length c, .slice B gs.length d] 28)).alloc (.cells #[.int .i64 (n : Int)] 3)) (w.heap.size + 2) #[.slice D dn dc] 29 (by simp)
  have t0 := Ext.alloc (Ext.alloc (Ext.alloc (Below.refl w.heap.size w) (.cells #[.slice A ys.length c, .slice B gs.length d] 28)) (.cells #[.int .i64 (n : Int)] 3)) (.cells #[.slice D dn dc] 29)
  have HG := Lib.hid (hg.below t0)
  have HD := Lib.hid (hd.below t0)
  have HF := Lib.hid hfit
  have HN := Lib.hid (And.intro hn hyl)
  obtain ⟨b, off, A2, c2, rfl, q2, r2⟩ := may_at (hy.below t0) hn
  have HK : Hid (LeftP ys gs n ds ↔ (SomeIs (eqBs ds) ys[n] ∨ SomeIs (hitB n ds) gs)) := by
    show _ ↔ _
    unfold LeftP
    exact ⟨fun h => h.elim (fun h => .inl h.2) .inr, fun h => h.elim (fun h => .inl ⟨hn, h⟩) .inr⟩
  generalize ys[n] = zs at *
  have HR := Lib.hid r2
  clear hy hg hd hfit r2
  have hmf : ∀ (fn : Fn) (first cap : Array Value) (w : World), (Instr.makeFunc fn first cap).run Try.prog w = .ok (.func fn first cap) w := fun _ _ _ _ => rfl
  go_enter Try.func39, Try.ntmps39
  go_upto_region 1 with fail
  obtain ⟨gd, hgd⟩ : ∃ z : Nat, z = w.heap.size + 2 := ⟨_, rfl⟩
  rw [← hgd] at B2
  generalize ((w.alloc (.cells #[.slice (some ⟨b, off, none⟩) ys.length c, .slice B gs.length d] 28)).alloc (.cells #[.int .i64 (n : Int)] 3)).alloc (.cells #[.slice D dn dc] 29) = W at *
  have x0 := P0.cell
  have y0 := B1.cell
  have z0 := B2.cell
  have HC := Lib.hid (has_left S zs A2 c2 gd D dn dc ds W HR.out HD.out B2)
  have hnl := HN.out.1
  go_wp2_with fail
  rw [← hgd]
  refine HC.out.mono ?_
  rintro e w1 ⟨⟨v1, rfl, hv⟩, b1⟩
  have P1 := P0.next b1
  have C1 := B1.next b1
  have C2 := B2.next b1
  have x1 := P1.cell
  have t1 := Ext.trans t0 b1
  have HV := Lib.hid hv
  clear hv x0 y0 z0 q2
  cases v1 with
  | true =>
    go_wp2
    go_ret
    exact ⟨YesNo.yes (HK.out.2 (.inl (HV.out.1 (by first | rfl | trivial)))), t1⟩
  | false =>
    have HC2 := Lib.hid (hasg_left S gs B d (n : Int) (by have := HN.out; omega) (w.heap.size + 1) gd D dn dc ds w1 (HG.out.below b1) (HD.out.below b1) C1 C2 HF.out)
    go_wp2_with fail
    rw [← hgd]
    refine HC2.out.mono ?_
    rintro e w2 ⟨⟨v2, rfl, hv2⟩, b2⟩
    have t2 := Ext.trans t1 b2
    have HV2 := Lib.hid hv2
    clear hv2
    go_wp2
    go_ret
    refine ⟨YesNo.of ?_, t2⟩
    rw [HK.out]
    constructor
    · intro h; exact .inr (HV2.out.1 h)
    · rintro (h | h)
      · have := HV.out.2 h; cases this
      · exact HV2.out.2 h
end Go.Proofs.Ytclbihcggjjgaaa
/- Layer 30 (model): the program: two lists side by side (the iterator). -/
namespace Go.Proofs.Ytclbihcggjjgaaa
open Go Go.RowKit Go.Shelf
set_option linter.unusedSimpArgs false
set_option linter.unusedVariables false
attribute [local go_sem] Oper.semAt_some

/-- what stood in old memory stands there still -/
def KeepL (base : Nat) (W W' : World) : Prop := ∀ (p : Addr) (v : Value), p.block < base → W.cell? p = some v → W'.cell? p = some v
theorem KeepL.refl (base : Nat) (W : World) : KeepL base W W := fun _ _ _ h => h
theorem KeepL.trans {base : Nat} {A B C : World} (h : KeepL base A B) (k : KeepL base B C) : KeepL base A C := fun p v hp hv => k p v hp (h p v hp hv)
theorem KeepL.below {base : Nat} {A B : World} (h : Below base A B) : KeepL base A B := fun p v hp hv => (h.cell hp).trans hv
theorem keepL_b {w : World} (base : Nat) (W : World) (l : Nat) (o o' : Obj) (hl : w.heap.size ≤ l) (h : W.heap[l]? = some o) (hc : o.isCells = false) (_ : o.isWalk = false) : KeepL base W (W.putObj l o') := by
  intro p v hp hv
  by_cases e : p.block = l
  · exfalso
    have h1 : W.cell? p = none := by
      subst e
      cases o <;> simp_all [World.cell?, Obj.isCells]
    rw [h1] at hv
    cases hv
  · rw [World.cell?_of_block (w := W) (a := p) (World.putObj_heap_other (fun h => e h))]
    exact hv
theorem abides_drew {α : Type} {B : Nat} {J : α → World → Prop} (h : AbidesFrom B J) {s : α} {W : World} (hs : J s W) : J s W.drew :=
  h s W W.drew none hs ⟨rfl, rfl, rfl, Nat.le_refl _, fun _ _ _ => rfl⟩ (fun _ e => by cases e)
def encB (ms : List Int) (vs : List Value) {m : Nat} (x : Fin m) : Array Value := #[.int .i64 (ms.getD x.val 0), vs.getD x.val undef]

set_option maxRecDepth 100000 in
set_option maxHeartbeats 2000000 in
theorem both1_in (F : Fence) (n : Nat) (h33 : F.fn 87) (hro : F.round = none) (hn : 1 ≤ n) (l gx gy base : Nat) (ms : List Int) (vs : List Value) (A B : Option Addr) (ca cb : Nat) (m : Nat) (hm : ((m : Nat) : Int) = min (ms.length : Int) (vs.length : Int)) (hmx : m ≤ maxLen) (J Jx : List (Fin m) → World → Prop)
    (W : World) (hJ : AbidesFrom W.heap.size J)
    (hY : ∀ pre x W', J pre W' → pre.length < m → YieldAt F (n - 1) Try.prog l (encB ms vs x) W' fun e W'' =>
      (e = .returned (.bool true) ∧ J (pre ++ [x]) W'' ∧ KeepL base W' W'') ∨ (e = .returned (.bool false) ∧ Jx (pre ++ [x]) W''))
    (hgx : gx < base) (hgy : gy < base) 
    (hx : W.cell? ⟨gx, 0, none⟩ = some (.slice A ms.length ca)) (hy : W.cell? ⟨gy, 0, none⟩ = some (.slice B vs.length cb))
    (hA : ∀ i, i < ms.length → ∃ b o, A = some ⟨b, o, none⟩ ∧ b < base ∧ W.cell? ⟨b, o + i, none⟩ = some (.int .i64 (ms.getD i 0))) (hB : ∀ i, i < vs.length → ∃ b o, B = some ⟨b, o, none⟩ ∧ b < base ∧ W.cell? ⟨b, o + i, none⟩ = some (vs.getD i undef)) (hV : ∀ i, i < vs.length → ∃ A n c, vs.getD i undef = .slice A n c) (h0 : J [] W) :
    CallsIn F n Try.prog 87 #[.func (.yield l) #[] #[], .pointer (some ⟨gx, 0, none⟩), .pointer (some ⟨gy, 0, none⟩)] W fun e W' => (∃ v, e = .returned v) ∧
      ((∃ ys, ys = List.finRange m ∧ J ys W') ∨ (∃ pre, pre <+: List.finRange m ∧ Jx pre W')) := by
  refine callsIn_of_wp Try.func87 rfl h33 ?_ hro
  simp only [Try.ntmps87, List.size_toArray, List.length_cons, List.length_nil, Nat.reduceAdd, Nat.reduceSub, Array.replicate_succ, Array.replicate_zero, List.push_toArray, List.append_toArray, List.nil_append, List.cons_append]
  have hmix : Try.prog.follows .mixedOrders = true := by kernel_rfl
  have HV := Lib.hid hV
  have HM := Lib.hid hm
  have HMX := Lib.hid hmx
  have hmm : m ≤ ms.length ∧ m ≤ vs.length := by omega
  have HMM := Lib.hid hmm
  clear hmm hmx hV
  gi_wp2
  rw [← HM.out]
  clear hm
  gi_loopw [4, 10] (fun u i wr => ∃ k : Nat, k ≤ m ∧ i = .int .i64 k ∧ J ((List.finRange m).take k) wr ∧ KeepL base W wr) (fun _ i _ => m - (intOf i).toNat)
  case atStart => exact ⟨0, Nat.zero_le _, rfl, h0, KeepL.refl _ _⟩
  case round =>
    obtain ⟨k, hk, rfl, hJs, hkp⟩ := hrel
    by_cases hlt : k < m
    · have hstep : (List.finRange m).take (k + 1) = (List.finRange m).take k ++ [⟨k, hlt⟩] := by
        rw [List.take_succ_eq_append_getElem (by simpa using hlt)]
        simp
      have hJd := abides_drew hJ hJs
      obtain ⟨b1, o1, rfl, hb1, q1⟩ := hA k (by have := HMM.out; omega)
      obtain ⟨b2, o2, rfl, hb2, q2⟩ := hB k (by have := HMM.out; omega)
      obtain ⟨A3, n3, c3, hv3⟩ := HV.out k (by have := HMM.out; omega)
      obtain ⟨fn, tmps, assign, body, hy', hR⟩ := hY _ ⟨k, hlt⟩ wr.drew hJd (by simp; omega)
      unfold encB at hy'
      dsimp only at hy'
      have x1 := hkp _ _ hgx hx
      have x2 := hkp _ _ hgy hy
      have x3 := hkp _ _ hb1 q1
      have x4 := hkp _ _ hb2 q2
      rw [hv3] at x4 hy'
      generalize ms.getD k 0 = z at *
      have HST := Lib.hid hstep
      clear hstep hY hA hB q1 q2 hv3
      have HWK := next_wrap HMX.out hlt
      have hl1 : k < ms.length := by have := HMM.out; omega
      have hl2 : k < vs.length := by have := HMM.out; omega
      have HKP := Lib.hid hkp
      have HJ9 := Lib.hid (And.intro hJs hJd)
      clear hJs hJd hJ hkp
      gi_wp2
      refine wpIn_region_any (by assumption) ?_
      try (change wpAnyIn _ _ _ _ _ _ _ _ _ (World.drew _))
      refine wpAnyIn_take (i := 0) (v := ?_) hro rfl (by kernel_rfl) (by kernel_rfl) (by kernel_rfl) (fun _ _ _ h => h) ⟨Or.inl ⟨by rfl, ?_⟩, fun _ => rfl⟩ ?_
      rotate_left
      · intro w
        go_simp
        try with_reducible rfl
      rotate_left
      try simp only [Act.put, List.getElem_toArray, List.getElem_cons_zero, List.getElem_cons_succ, List.setIfInBounds_toArray, List.set_cons_zero, List.set_cons_succ]
      refine wpAnyIn_take (i := 2) (v := ?_) hro rfl (by kernel_rfl) (by kernel_rfl) (by kernel_rfl) (fun _ _ _ h => h) ⟨Or.inl ⟨by rfl, ?_⟩, fun _ => rfl⟩ ?_
      rotate_left
      · intro w
        go_simp
        try with_reducible rfl
      rotate_left
      try simp only [Act.put, List.getElem_toArray, List.getElem_cons_zero, List.getElem_cons_succ, List.setIfInBounds_toArray, List.set_cons_zero, List.set_cons_succ]
      refine wpAnyIn_take (i := 6) (v := ?_) hro rfl (by kernel_rfl) (by kernel_rfl) (by kernel_rfl) (fun _ _ _ h => h) ⟨Or.inl ⟨by rfl, ?_⟩, fun _ => rfl⟩ ?_
      rotate_left
      · intro w
        go_simp
        try with_reducible rfl
      rotate_left
      try simp only [Act.put, List.getElem_toArray, List.getElem_cons_zero, List.getElem_cons_succ, List.setIfInBounds_toArray, List.set_cons_zero, List.set_cons_succ]
      refine wpAnyIn_ready (rs := [1, 5]) (by kernel_rfl) (by simp) ?_
      refine AllReadyIn.cons rfl (fun K hK => ?_) (AllReadyIn.cons rfl (fun K hK => ?_) AllReadyIn.nil)
      · go_simp
        refine hK _ _ ?_
        clear hK K
        try simp only [Act.put, List.getElem_toArray, List.getElem_cons_zero, List.getElem_cons_succ, List.setIfInBounds_toArray, List.set_cons_zero, List.set_cons_succ]
        refine wpAnyIn_take (i := 3) (v := ?_) hro rfl (by kernel_rfl) (by kernel_rfl) (by kernel_rfl) (fun _ _ _ h => h) ⟨Or.inl ⟨by rfl, ?_⟩, fun _ => rfl⟩ ?_
        rotate_left
        · intro w
          go_simp
          try with_reducible rfl
        rotate_left
        try simp only [Act.put, List.getElem_toArray, List.getElem_cons_zero, List.getElem_cons_succ, List.setIfInBounds_toArray, List.set_cons_zero, List.set_cons_succ]
        refine wpAnyIn_ready (rs := [4, 5]) (by kernel_rfl) (by simp) ?_
        refine AllReadyIn.cons rfl (fun K hK => ?_) (AllReadyIn.cons rfl (fun K hK => ?_) AllReadyIn.nil)
        · go_simp
          refine hK _ _ ?_
          clear hK K
          try simp only [Act.put, List.getElem_toArray, List.getElem_cons_zero, List.getElem_cons_succ, List.setIfInBounds_toArray, List.set_cons_zero, List.set_cons_succ]
          refine wpAnyIn_ready (rs := [5]) (by kernel_rfl) (by simp) ?_
          refine AllReadyIn.cons rfl (fun K hK => ?_) AllReadyIn.nil
          go_simp
          refine hK _ _ ?_
          clear hK K
          try simp only [Act.put, List.getElem_toArray, List.getElem_cons_zero, List.getElem_cons_succ, List.setIfInBounds_toArray, List.set_cons_zero, List.set_cons_succ]
          refine wpAnyIn_take (i := 7) (v := ?_) hro rfl (by kernel_rfl) (by kernel_rfl) (by kernel_rfl) (fun _ _ _ h => h) ⟨Or.inl ⟨by rfl, ?_⟩, fun _ => rfl⟩ ?_
          rotate_left
          · intro w
            go_simp
            try with_reducible rfl
          rotate_left
          try simp only [Act.put, List.getElem_toArray, List.getElem_cons_zero, List.getElem_cons_succ, List.setIfInBounds_toArray, List.set_cons_zero, List.set_cons_succ]
          refine wpAnyIn_ready (rs := [8]) (by kernel_rfl) (by simp) ?_
          refine AllReadyIn.cons rfl (fun K hK => ?_) AllReadyIn.nil
          go_simp
          refine hK _ _ ?_
          clear hK K
          try simp only [Act.put, List.getElem_toArray, List.getElem_cons_zero, List.getElem_cons_succ, List.setIfInBounds_toArray, List.set_cons_zero, List.set_cons_succ]
          refine wpAnyIn_ready (rs := [9]) (by kernel_rfl) (by simp) ?_
          refine AllReadyIn.cons rfl (fun K hK => ?_) AllReadyIn.nil
          go_simp
          refine hR.mono ?_
          rintro e W3 (⟨rfl, hJ3, hk3⟩ | ⟨rfl, hJx3⟩)
          · dsimp only
            refine hK _ _ ?_
            clear hK K
            refine wpAnyIn_take (i := 10) (v := ?_) hro rfl (by kernel_rfl) (by kernel_rfl) (by kernel_rfl) (fun _ _ _ h => h) ⟨Or.inl ⟨by rfl, ?_⟩, fun _ => rfl⟩ ?_
            rotate_left
            · intro w
              go_simp
              try with_reducible rfl
            rotate_left
            try simp only [Act.put, List.getElem_toArray, List.getElem_cons_zero, List.getElem_cons_succ, List.setIfInBounds_toArray, List.set_cons_zero, List.set_cons_succ]
            refine wpAnyIn_done (by kernel_rfl) ?_ _
            gi_wp2
            go_roundw
            case rel => exact ⟨k + 1, by omega, by first | exact round_same HWK | go_num, by rw [HST.out]; exact hJ3, HKP.out.trans (KeepL.trans (fun p v hp hv => hv) hk3)⟩
            case measure => first | exact round_less HWK hlt | (simp [intOf]; omega)
          · dsimp only
            refine hK _ _ ?_
            clear hK K
            refine wpAnyIn_take (i := 10) (v := ?_) hro rfl (by kernel_rfl) (by kernel_rfl) (by kernel_rfl) (fun _ _ _ h => h) ⟨Or.inl ⟨by rfl, ?_⟩, fun _ => rfl⟩ ?_
            rotate_left
            · intro w
              go_simp
              try with_reducible rfl
            rotate_left
            try simp only [Act.put, List.getElem_toArray, List.getElem_cons_zero, List.getElem_cons_succ, List.setIfInBounds_toArray, List.set_cons_zero, List.set_cons_succ]
            refine wpAnyIn_done (by kernel_rfl) ?_ _
            gi_wp2
            first | go_end0 | (refine bodyPost_ret (results_none rfl _ _ _) rfl ?_)
            exact ⟨⟨_, rfl⟩, .inr ⟨_, by rw [← HST.out]; exact List.take_prefix _ _, hJx3⟩⟩
        · go_simp
          refine hK _ _ ?_
          clear hK K
          try simp only [Act.put, List.getElem_toArray, List.getElem_cons_zero, List.getElem_cons_succ, List.setIfInBounds_toArray, List.set_cons_zero, List.set_cons_succ]
          refine wpAnyIn_take (i := 7) (v := ?_) hro rfl (by kernel_rfl) (by kernel_rfl) (by kernel_rfl) (fun _ _ _ h => h) ⟨Or.inl ⟨by rfl, ?_⟩, fun _ => rfl⟩ ?_
          rotate_left
          · intro w
            go_simp
            try with_reducible rfl
          rotate_left
          try simp only [Act.put, List.getElem_toArray, List.getElem_cons_zero, List.getElem_cons_succ, List.setIfInBounds_toArray, List.set_cons_zero, List.set_cons_succ]
          refine wpAnyIn_ready (rs := [4, 8]) (by kernel_rfl) (by simp) ?_
          refine AllReadyIn.cons rfl (fun K hK => ?_) (AllReadyIn.cons rfl (fun K hK => ?_) AllReadyIn.nil)
          · go_simp
            refine hK _ _ ?_
            clear hK K
            try simp only [Act.put, List.getElem_toArray, List.getElem_cons_zero, List.getElem_cons_succ, List.setIfInBounds_toArray, List.set_cons_zero, List.set_cons_succ]
            refine wpAnyIn_ready (rs := [8]) (by kernel_rfl) (by simp) ?_
            refine AllReadyIn.cons rfl (fun K hK => ?_) AllReadyIn.nil
            go_simp
            refine hK _ _ ?_
            clear hK K
            try simp only [Act.put, List.getElem_toArray, List.getElem_cons_zero, List.getElem_cons_succ, List.setIfInBounds_toArray, List.set_cons_zero, List.set_cons_succ]
            refine wpAnyIn_ready (rs := [9]) (by kernel_rfl) (by simp) ?_
            refine AllReadyIn.cons rfl (fun K hK => ?_) AllReadyIn.nil
            go_simp
            refine hR.mono ?_
            rintro e W3 (⟨rfl, hJ3, hk3⟩ | ⟨rfl, hJx3⟩)
            · dsimp only
              refine hK _ _ ?_
              clear hK K
              refine wpAnyIn_take (i := 10) (v := ?_) hro rfl (by kernel_rfl) (by kernel_rfl) (by kernel_rfl) (fun _ _ _ h => h) ⟨Or.inl ⟨by rfl, ?_⟩, fun _ => rfl⟩ ?_
              rotate_left
              · intro w
                go_simp
                try with_reducible rfl
              rotate_left
              try simp only [Act.put, List.getElem_toArray, List.getElem_cons_zero, List.getElem_cons_succ, List.setIfInBounds_toArray, List.set_cons_zero, List.set_cons_succ]
              refine wpAnyIn_done (by kernel_rfl) ?_ _
              gi_wp2
              go_roundw
              case rel => exact ⟨k + 1, by omega, by first | exact round_same HWK | go_num, by rw [HST.out]; exact hJ3, HKP.out.trans (KeepL.trans (fun p v hp hv => hv) hk3)⟩
              case measure => first | exact round_less HWK hlt | (simp [intOf]; omega)
            · dsimp only
              refine hK _ _ ?_
              clear hK K
              refine wpAnyIn_take (i := 10) (v := ?_) hro rfl (by kernel_rfl) (by kernel_rfl) (by kernel_rfl) (fun _ _ _ h => h) ⟨Or.inl ⟨by rfl, ?_⟩, fun _ => rfl⟩ ?_
              rotate_left
              · intro w
                go_simp
                try with_reducible rfl
              rotate_left
              try simp only [Act.put, List.getElem_toArray, List.getElem_cons_zero, List.getElem_cons_succ, List.setIfInBounds_toArray, List.set_cons_zero, List.set_cons_succ]
              refine wpAnyIn_done (by kernel_rfl) ?_ _
              gi_wp2
              first | go_end0 | (refine bodyPost_ret (results_none rfl _ _ _) rfl ?_)
              exact ⟨⟨_, rfl⟩, .inr ⟨_, by rw [← HST.out]; exact List.take_prefix _ _, hJx3⟩⟩
          · go_simp
            refine hK _ _ ?_
            clear hK K
            try simp only [Act.put, List.getElem_toArray, List.getElem_cons_zero, List.getElem_cons_succ, List.setIfInBounds_toArray, List.set_cons_zero, List.set_cons_succ]
            refine wpAnyIn_ready (rs := [4]) (by kernel_rfl) (by simp) ?_
            refine AllReadyIn.cons rfl (fun K hK => ?_) AllReadyIn.nil
            go_simp
            refine hK _ _ ?_
            clear hK K
            try simp only [Act.put, List.getElem_toArray, List.getElem_cons_zero, List.getElem_cons_succ, List.setIfInBounds_toArray, List.set_cons_zero, List.set_cons_succ]
            refine wpAnyIn_ready (rs := [9]) (by kernel_rfl) (by simp) ?_
            refine AllReadyIn.cons rfl (fun K hK => ?_) AllReadyIn.nil
            go_simp
            refine hR.mono ?_
            rintro e W3 (⟨rfl, hJ3, hk3⟩ | ⟨rfl, hJx3⟩)
            · dsimp only
              refine hK _ _ ?_
              clear hK K
              refine wpAnyIn_take (i := 10) (v := ?_) hro rfl (by kernel_rfl) (by kernel_rfl) (by kernel_rfl) (fun _ _ _ h => h) ⟨Or.inl ⟨by rfl, ?_⟩, fun _ => rfl⟩ ?_
              rotate_left
              · intro w
                go_simp
                try with_reducible rfl
              rotate_left
              try simp only [Act.put, List.getElem_toArray, List.getElem_cons_zero, List.getElem_cons_succ, List.setIfInBounds_toArray, List.set_cons_zero, List.set_cons_succ]
              refine wpAnyIn_done (by kernel_rfl) ?_ _
              gi_wp2
              go_roundw
              case rel => exact ⟨k + 1, by omega, by first | exact round_same HWK | go_num, by rw [HST.out]; exact hJ3, HKP.out.trans (KeepL.trans (fun p v hp hv => hv) hk3)⟩
              case measure => first | exact round_less HWK hlt | (simp [intOf]; omega)
            · dsimp only
              refine hK _ _ ?_
              clear hK K
              refine wpAnyIn_take (i := 10) (v := ?_) hro rfl (by kernel_rfl) (by kernel_rfl) (by kernel_rfl) (fun _ _ _ h => h) ⟨Or.inl ⟨by rfl, ?_⟩, fun _ => rfl⟩ ?_
              rotate_left
              · intro w
                go_simp
                try with_reducible rfl
              rotate_left
              try simp only [Act.put, List.getElem_toArray, List.getElem_cons_zero, List.getElem_cons_succ, List.setIfInBounds_toArray, List.set_cons_zero, List.set_cons_succ]
              refine wpAnyIn_done (by kernel_rfl) ?_ _
              gi_wp2
              first | go_end0 | (refine bodyPost_ret (results_none rfl _ _ _) rfl ?_)
              exact ⟨⟨_, rfl⟩, .inr ⟨_, by rw [← HST.out]; exact List.take_prefix _ _, hJx3⟩⟩
      · go_simp
        refine hK _ _ ?_
        clear hK K
        try simp only [Act.put, List.getElem_toArray, List.getElem_cons_zero, List.getElem_cons_succ, List.setIfInBounds_toArray, List.set_cons_zero, List.set_cons_succ]
        refine wpAnyIn_take (i := 7) (v := ?_) hro rfl (by kernel_rfl) (by kernel_rfl) (by kernel_rfl) (fun _ _ _ h => h) ⟨Or.inl ⟨by rfl, ?_⟩, fun _ => rfl⟩ ?_
        rotate_left
        · intro w
          go_simp
          try with_reducible rfl
        rotate_left
        try simp only [Act.put, List.getElem_toArray, List.getElem_cons_zero, List.getElem_cons_succ, List.setIfInBounds_toArray, List.set_cons_zero, List.set_cons_succ]
        refine wpAnyIn_ready (rs := [1, 8]) (by kernel_rfl) (by simp) ?_
        refine AllReadyIn.cons rfl (fun K hK => ?_) (AllReadyIn.cons rfl (fun K hK => ?_) AllReadyIn.nil)
        · go_simp
          refine hK _ _ ?_
          clear hK K
          try simp only [Act.put, List.getElem_toArray, List.getElem_cons_zero, List.getElem_cons_succ, List.setIfInBounds_toArray, List.set_cons_zero, List.set_cons_succ]
          refine wpAnyIn_take (i := 3) (v := ?_) hro rfl (by kernel_rfl) (by kernel_rfl) (by kernel_rfl) (fun _ _ _ h => h) ⟨Or.inl ⟨by rfl, ?_⟩, fun _ => rfl⟩ ?_
          rotate_left
          · intro w
            go_simp
            try with_reducible rfl
          rotate_left
          try simp only [Act.put, List.getElem_toArray, List.getElem_cons_zero, List.getElem_cons_succ, List.setIfInBounds_toArray, List.set_cons_zero, List.set_cons_succ]
          refine wpAnyIn_ready (rs := [4, 8]) (by kernel_rfl) (by simp) ?_
          refine AllReadyIn.cons rfl (fun K hK => ?_) (AllReadyIn.cons rfl (fun K hK => ?_) AllReadyIn.nil)
          · go_simp
            refine hK _ _ ?_
            clear hK K
            try simp only [Act.put, List.getElem_toArray, List.getElem_cons_zero, List.getElem_cons_succ, List.setIfInBounds_toArray, List.set_cons_zero, List.set_cons_succ]
            refine wpAnyIn_ready (rs := [8]) (by kernel_rfl) (by simp) ?_
            refine AllReadyIn.cons rfl (fun K hK => ?_) AllReadyIn.nil
            go_simp
            refine hK _ _ ?_
            clear hK K
            try simp only [Act.put, List.getElem_toArray, List.getElem_cons_zero, List.getElem_cons_succ, List.setIfInBounds_toArray, List.set_cons_zero, List.set_cons_succ]
            refine wpAnyIn_ready (rs := [9]) (by kernel_rfl) (by simp) ?_
            refine AllReadyIn.cons rfl (fun K hK => ?_) AllReadyIn.nil
            go_simp
            refine hR.mono ?_
            rintro e W3 (⟨rfl, hJ3, hk3⟩ | ⟨rfl, hJx3⟩)
            · dsimp only
              refine hK _ _ ?_
              clear hK K
              refine wpAnyIn_take (i := 10) (v := ?_) hro rfl (by kernel_rfl) (by kernel_rfl) (by kernel_rfl) (fun _ _ _ h => h) ⟨Or.inl ⟨by rfl, ?_⟩, fun _ => rfl⟩ ?_
              rotate_left
              · intro w
                go_simp
                try with_reducible rfl
              rotate_left
              try simp only [Act.put, List.getElem_toArray, List.getElem_cons_zero, List.getElem_cons_succ, List.setIfInBounds_toArray, List.set_cons_zero, List.set_cons_succ]
              refine wpAnyIn_done (by kernel_rfl) ?_ _
              gi_wp2
              go_roundw
              case rel => exact ⟨k + 1, by omega, by first | exact round_same HWK | go_num, by rw [HST.out]; exact hJ3, HKP.out.trans (KeepL.trans (fun p v hp hv => hv) hk3)⟩
              case measure => first | exact round_less HWK hlt | (simp [intOf]; omega)
            · dsimp only
              refine hK _ _ ?_
              clear hK K
              refine wpAnyIn_take (i := 10) (v := ?_) hro rfl (by kernel_rfl) (by kernel_rfl) (by kernel_rfl) (fun _ _ _ h => h) ⟨Or.inl ⟨by rfl, ?_⟩, fun _ => rfl⟩ ?_
              rotate_left
              · intro w
                go_simp
                try with_reducible rfl
              rotate_left
              try simp only [Act.put, List.getElem_toArray, List.getElem_cons_zero, List.getElem_cons_succ, List.setIfInBounds_toArray, List.set_cons_zero, List.set_cons_succ]
              refine wpAnyIn_done (by kernel_rfl) ?_ _
              gi_wp2
              first | go_end0 | (refine bodyPost_ret (results_none rfl _ _ _) rfl ?_)
              exact ⟨⟨_, rfl⟩, .inr ⟨_, by rw [← HST.out]; exact List.take_prefix _ _, hJx3⟩⟩
          · go_simp
            refine hK _ _ ?_
            clear hK K
            try simp only [Act.put, List.getElem_toArray, List.getElem_cons_zero, List.getElem_cons_succ, List.setIfInBounds_toArray, List.set_cons_zero, List.set_cons_succ]
            refine wpAnyIn_ready (rs := [4]) (by kernel_rfl) (by simp) ?_
            refine AllReadyIn.cons rfl (fun K hK => ?_) AllReadyIn.nil
            go_simp
            refine hK _ _ ?_
            clear hK K
            try simp only [Act.put, List.getElem_toArray, List.getElem_cons_zero, List.getElem_cons_succ, List.setIfInBounds_toArray, List.set_cons_zero, List.set_cons_succ]
            refine wpAnyIn_ready (rs := [9]) (by kernel_rfl) (by simp) ?_
            refine AllReadyIn.cons rfl (fun K hK => ?_) AllReadyIn.nil
            go_simp
            refine hR.mono ?_
            rintro e W3 (⟨rfl, hJ3, hk3⟩ | ⟨rfl, hJx3⟩)
            · dsimp only
              refine hK _ _ ?_
              clear hK K
              refine wpAnyIn_take (i := 10) (v := ?_) hro rfl (by kernel_rfl) (by kernel_rfl) (by kernel_rfl) (fun _ _ _ h => h) ⟨Or.inl ⟨by rfl, ?_⟩, fun _ => rfl⟩ ?_
              rotate_left
              · intro w
                go_simp
                try with_reducible rfl
              rotate_left
              try simp only [Act.put, List.getElem_toArray, List.getElem_cons_zero, List.getElem_cons_succ, List.setIfInBounds_toArray, List.set_cons_zero, List.set_cons_succ]
              refine wpAnyIn_done (by kernel_rfl) ?_ _
              gi_wp2
              go_roundw
              case rel => exact ⟨k + 1, by omega, by first | exact round_same HWK | go_num, by rw [HST.out]; exact hJ3, HKP.out.trans (KeepL.trans (fun p v hp hv => hv) hk3)⟩
              case measure => first | exact round_less HWK hlt | (simp [intOf]; omega)
            · dsimp only
              refine hK _ _ ?_
              clear hK K
              refine wpAnyIn_take (i := 10) (v := ?_) hro rfl (by kernel_rfl) (by kernel_rfl) (by kernel_rfl) (fun _ _ _ h => h) ⟨Or.inl ⟨by rfl, ?_⟩, fun _ => rfl⟩ ?_
              rotate_left
              · intro w
                go_simp
                try with_reducible rfl
              rotate_left
              try simp only [Act.put, List.getElem_toArray, List.getElem_cons_zero, List.getElem_cons_succ, List.setIfInBounds_toArray, List.set_cons_zero, List.set_cons_succ]
              refine wpAnyIn_done (by kernel_rfl) ?_ _
              gi_wp2
              first | go_end0 | (refine bodyPost_ret (results_none rfl _ _ _) rfl ?_)
              exact ⟨⟨_, rfl⟩, .inr ⟨_, by rw [← HST.out]; exact List.take_prefix _ _, hJx3⟩⟩
        · go_simp
          refine hK _ _ ?_
          clear hK K
          try simp only [Act.put, List.getElem_toArray, List.getElem_cons_zero, List.getElem_cons_succ, List.setIfInBounds_toArray, List.set_cons_zero, List.set_cons_succ]
          refine wpAnyIn_ready (rs := [1]) (by kernel_rfl) (by simp) ?_
          refine AllReadyIn.cons rfl (fun K hK => ?_) AllReadyIn.nil
          go_simp
          refine hK _ _ ?_
          clear hK K
          try simp only [Act.put, List.getElem_toArray, List.getElem_cons_zero, List.getElem_cons_succ, List.setIfInBounds_toArray, List.set_cons_zero, List.set_cons_succ]
          refine wpAnyIn_take (i := 3) (v := ?_) hro rfl (by kernel_rfl) (by kernel_rfl) (by kernel_rfl) (fun _ _ _ h => h) ⟨Or.inl ⟨by rfl, ?_⟩, fun _ => rfl⟩ ?_
          rotate_left
          · intro w
            go_simp
            try with_reducible rfl
          rotate_left
          try simp only [Act.put, List.getElem_toArray, List.getElem_cons_zero, List.getElem_cons_succ, List.setIfInBounds_toArray, List.set_cons_zero, List.set_cons_succ]
          refine wpAnyIn_ready (rs := [4]) (by kernel_rfl) (by simp) ?_
          refine AllReadyIn.cons rfl (fun K hK => ?_) AllReadyIn.nil
          go_simp
          refine hK _ _ ?_
          clear hK K
          try simp only [Act.put, List.getElem_toArray, List.getElem_cons_zero, List.getElem_cons_succ, List.setIfInBounds_toArray, List.set_cons_zero, List.set_cons_succ]
          refine wpAnyIn_ready (rs := [9]) (by kernel_rfl) (by simp) ?_
          refine AllReadyIn.cons rfl (fun K hK => ?_) AllReadyIn.nil
          go_simp
          refine hR.mono ?_
          rintro e W3 (⟨rfl, hJ3, hk3⟩ | ⟨rfl, hJx3⟩)
          · dsimp only
            refine hK _ _ ?_
            clear hK K
            refine wpAnyIn_take (i := 10) (v := ?_) hro rfl (by kernel_rfl) (by kernel_rfl) (by kernel_rfl) (fun _ _ _ h => h) ⟨Or.inl ⟨by rfl, ?_⟩, fun _ => rfl⟩ ?_
            rotate_left
            · intro w
              go_simp
              try with_reducible rfl
            rotate_left
            try simp only [Act.put, List.getElem_toArray, List.getElem_cons_zero, List.getElem_cons_succ, List.setIfInBounds_toArray, List.set_cons_zero, List.set_cons_succ]
            refine wpAnyIn_done (by kernel_rfl) ?_ _
            gi_wp2
            go_roundw
            case rel => exact ⟨k + 1, by omega, by first | exact round_same HWK | go_num, by rw [HST.out]; exact hJ3, HKP.out.trans (KeepL.trans (fun p v hp hv => hv) hk3)⟩
            case measure => first | exact round_less HWK hlt | (simp [intOf]; omega)
          · dsimp only
            refine hK _ _ ?_
            clear hK K
            refine wpAnyIn_take (i := 10) (v := ?_) hro rfl (by kernel_rfl) (by kernel_rfl) (by kernel_rfl) (fun _ _ _ h => h) ⟨Or.inl ⟨by rfl, ?_⟩, fun _ => rfl⟩ ?_
            rotate_left
            · intro w
              go_simp
              try with_reducible rfl
            rotate_left
            try simp only [Act.put, List.getElem_toArray, List.getElem_cons_zero, List.getElem_cons_succ, List.setIfInBounds_toArray, List.set_cons_zero, List.set_cons_succ]
            refine wpAnyIn_done (by kernel_rfl) ?_ _
            gi_wp2
            first | go_end0 | (refine bodyPost_ret (results_none rfl _ _ _) rfl ?_)
            exact ⟨⟨_, rfl⟩, .inr ⟨_, by rw [← HST.out]; exact List.take_prefix _ _, hJx3⟩⟩
    · have hkm : k = m := by omega
      have hall : (List.finRange m).take k = List.finRange m := by rw [hkm]; exact List.take_of_length_le (by simp)
      rw [hall] at hJs
      have HJ := Lib.hid hJs
      clear hall hJs hY
      gi_wp2
      all_goals
        go_end0
        exact ⟨⟨_, rfl⟩, .inl ⟨_, rfl, HJ.out⟩⟩

set_option maxHeartbeats 1000000 in
theorem both_in (F : Fence) (n : Nat) (h22 : F.fn 77) (hro : F.round = none) (A B : Option Addr) (na ca nb cb : Nat) (w : World) :
    CallsIn F n Try.prog 77 #[.slice A na ca, .slice B nb cb] w fun e w' => e = .returned (.func (.func 87) #[] #[.pointer (some ⟨w.heap.size, 0, none⟩), .pointer (some ⟨w.heap.size + 1, 0, none⟩)]) ∧ w' = (w.alloc (.cells #[.slice A na ca] 62)).alloc (.cells #[.slice B nb cb] 25) := by
  have hmf : ∀ (fn : Fn) (first cap : Array Value) (w : World), (Instr.makeFunc fn first cap).run Try.prog w = .ok (.func fn first cap) w := fun _ _ _ _ => rfl
  refine callsIn_of_wp Try.func77 rfl h22 ?_ hro
  simp only [Try.ntmps77, List.size_toArray, List.length_cons, List.length_nil, Nat.reduceAdd, Nat.reduceSub, Array.replicate_succ, Array.replicate_zero, List.push_toArray, List.append_toArray, List.nil_append, List.cons_append]
  gi_wp2
  go_ret
  exact ⟨rfl, rfl⟩

theorem both_stops (F : Fence) (n : Nat) (h33 : F.fn 87) (hro : F.round = none) (hn : 1 ≤ n) (gx gy base : Nat) (ms : List Int) (vs : List Value) (A B : Option Addr) (ca cb : Nat) (m : Nat) (hm : ((m : Nat) : Int) = min (ms.length : Int) (vs.length : Int)) (hmx : m ≤ maxLen) (w : World) (hbase : base ≤ w.heap.size)
    (hgx : gx < base) (hgy : gy < base)
    (hx : w.cell? ⟨gx, 0, none⟩ = some (.slice A ms.length ca)) (hy : w.cell? ⟨gy, 0, none⟩ = some (.slice B vs.length cb))
    (hA : ∀ i, i < ms.length → ∃ b o, A = some ⟨b, o, none⟩ ∧ b < base ∧ w.cell? ⟨b, o + i, none⟩ = some (.int .i64 (ms.getD i 0))) (hB : ∀ i, i < vs.length → ∃ b o, B = some ⟨b, o, none⟩ ∧ b < base ∧ w.cell? ⟨b, o + i, none⟩ = some (vs.getD i undef)) (hV : ∀ i, i < vs.length → ∃ A n c, vs.getD i undef = .slice A n c) :
    SeqStopsK F n Try.prog 87 #[.pointer (some ⟨gx, 0, none⟩), .pointer (some ⟨gy, 0, none⟩)] (encB ms vs (m := m)) (KeepL base) (fun ys => ys = List.finRange m) (fun pre => pre <+: List.finRange m) m w := fun l J Jx W hW hJ _ hY h0 => by
  have tr : ∀ (p : Addr) (v : Value), p.block < base → w.cell? p = some v → W.cell? p = some v := fun p v hp hv => (hW.cell (Nat.lt_of_lt_of_le hp hbase)).trans hv
  exact both1_in F n h33 hro hn l gx gy base ms vs A B ca cb m hm hmx J Jx W hJ hY hgx hgy (tr _ _ hgx hx) (tr _ _ hgy hy)
    (fun i hi => by obtain ⟨b, o, h1, h2, h3⟩ := hA i hi; exact ⟨b, o, h1, h2, tr _ _ h2 h3⟩) (fun i hi => by obtain ⟨b, o, h1, h2, h3⟩ := hB i hi; exact ⟨b, o, h1, h2, tr _ _ h2 h3⟩) hV h0
end Go.Proofs.Ytclbihcggjjgaaa
