/- Layer 11 (note): the statements' own functions. -/
import Derived.Test.YtggdfecgkhnkkaaNote4
import Derived.Test.YtggdfecgkhnkkaaData
namespace Go.Proofs.Ytggdfecgkhnkkaa
open Go Go.RowKit
set_option linter.unusedSimpArgs false
set_option linter.unusedVariables false

def ncells (id age sq : Nat) (st : Int) (A : Option Addr) (n q : Nat) : Array Value := #[.int .u32 (id : Int), .int .u32 (age : Int), .int .u32 (sq : Int), .int .i64 st, .slice A n q]
theorem rec_open {w : World} {cs : List Value} {y : (Ty.st (.prod .byte (.prod .bool (.prod .u32 .unit)))).T} (h : Reads w (Ty.st (.prod .byte (.prod .bool (.prod .u32 .unit)))) y cs) : ∃ r : NRec, cs = recV r ∧ r.sl < 256 ∧ r.su < 4294967296 := by
  obtain ⟨s, b, u, z⟩ := y
  obtain ⟨c0, d0, rfl, r0, h⟩ := reads_prod.1 (reads_st.1 h)
  obtain ⟨c1, d1, rfl, r1, h⟩ := reads_prod.1 h
  obtain ⟨c2, d2, rfl, r2, h⟩ := reads_prod.1 h
  obtain rfl := reads_unit.1 h
  obtain rfl := reads_byte.1 r0
  obtain rfl := reads_bool.1 r1
  obtain ⟨rfl, i2⟩ := reads_u32.1 r2
  exact ⟨⟨(show UInt8 from s).toNat, b, u⟩, rfl, UInt8.toNat_lt _, i2⟩
theorem recs_open {w : World} {xs : List (Ty.st (.prod .byte (.prod .bool (.prod .u32 .unit)))).T} {b off : Nat} (hc : ∀ i (hi : i < xs.length), ∃ es : List Value, (∀ j, j < 3 → w.cell? ⟨b, off + i * 3 + j, none⟩ = es[j]?) ∧ Reads w (Ty.st (.prod .byte (.prod .bool (.prod .u32 .unit)))) xs[i] es) :
    ∃ rs : List NRec, rs.length = xs.length ∧ (∀ r ∈ rs, r.sl < 256 ∧ r.su < 4294967296) ∧ ∀ i (hi : i < rs.length) j, j < 3 → w.cell? ⟨b, off + i * 3 + j, none⟩ = (recV rs[i])[j]? := by
  induction xs generalizing off with
  | nil => exact ⟨[], rfl, by simp, fun i hi => by simp at hi⟩
  | cons x xs ih =>
    obtain ⟨es, he, hr⟩ := hc 0 (by simp)
    obtain ⟨r, rfl, h1, h2⟩ := rec_open hr
    obtain ⟨rs, hl, hb, hcs⟩ := ih (off := off + 3) fun i hi => by
      obtain ⟨es, he, hr⟩ := hc (i + 1) (by simpa using hi)
      refine ⟨es, fun j hj => ?_, by simpa using hr⟩
      rw [← he j hj]; congr 2; omega
    refine ⟨r :: rs, by simp [hl], by simpa using ⟨⟨h1, h2⟩, hb⟩, fun i hi j hj => ?_⟩
    rcases i with _ | i
    · have := he j hj
      simpa using this
    · have := hcs i (by simpa using hi) j hj
      simp only [List.getElem_cons_succ]
      rw [← this]; congr 2; omega
theorem recsV_get (rs : List NRec) (i : Nat) (hi : i < (recsV rs).length) : (recsV rs)[i]? = (recV (rs[i / 3]'(by rw [recsV_len] at hi; omega)))[i % 3]? := by
  have h := recsV_at rs (i % 3) (by omega) (i / 3) (by rw [recsV_len] at hi; omega)
  rw [← h]; congr 1; omega
theorem Rs.of {w : World} {b off : Nat} {rs : List NRec} (hc : ∀ i (hi : i < rs.length) j, j < 3 → w.cell? ⟨b, off + i * 3 + j, none⟩ = (recV rs[i])[j]?) : Rs w (some ⟨b, off, none⟩) rs.length rs := by
  refine ⟨rfl, .inr ⟨b, off, rfl, fun i hi => ?_⟩⟩
  have hl := hi
  rw [recsV_len] at hl
  rw [recsV_get rs i hi, ← hc (i / 3) (by omega) (i % 3) (by omega)]
  congr 2; omega
theorem note_open {w : World} {cs : List Value} {y : (Ty.st (.prod .u32 (.prod .u32 (.prod .u32 (.prod .int (.prod (.sl (Ty.st (.prod .byte (.prod .bool (.prod .u32 .unit))))) .unit)))))).T} (h : Reads w (Ty.st (.prod .u32 (.prod .u32 (.prod .u32 (.prod .int (.prod (.sl (Ty.st (.prod .byte (.prod .bool (.prod .u32 .unit))))) .unit)))))) y cs) : ∃ (id age sq : Nat) (st : Int) (A : Option Addr) (n q : Nat) (rs : List NRec), Value.agg cs.toArray = .agg (ncells id age sq st A n q) ∧ id < 4294967296 ∧ age < 4294967296 ∧ sq < 4294967296 ∧ IsInt st ∧ n ≤ q ∧ q ≤ maxLen ∧ Rs w A n rs ∧ (∀ r ∈ rs, r.sl < 256 ∧ r.su < 4294967296) := by
  obtain ⟨id, age, sq, st, xs, u⟩ := y
  obtain ⟨c0, d0, rfl, r0, h⟩ := reads_prod.1 (reads_st.1 h)
  obtain ⟨c1, d1, rfl, r1, h⟩ := reads_prod.1 h
  obtain ⟨c2, d2, rfl, r2, h⟩ := reads_prod.1 h
  obtain ⟨c3, d3, rfl, r3, h⟩ := reads_prod.1 h
  obtain ⟨c4, d4, rfl, r4, h⟩ := reads_prod.1 h
  obtain rfl := reads_unit.1 h
  obtain ⟨rfl, i0⟩ := reads_u32.1 r0
  obtain ⟨rfl, i1⟩ := reads_u32.1 r1
  obtain ⟨rfl, i2⟩ := reads_u32.1 r2
  obtain ⟨rfl, i3⟩ := reads_int.1 r3
  obtain ⟨A, q, rfl, hq, hm, hx⟩ := reads_sl.1 r4
  rcases hx with rfl | ⟨b, off, rfl, hc⟩
  · exact ⟨id, age, sq, st, A, 0, q, [], rfl, i0, i1, i2, i3, hq, hm, ⟨rfl, .inl rfl⟩, by simp⟩
  · obtain ⟨rs, hl, hb, hcs⟩ := recs_open (b := b) (off := off) hc
    have hR := Rs.of hcs
    rw [hl] at hR
    exact ⟨id, age, sq, st, some ⟨b, off, none⟩, xs.length, q, rs, rfl, i0, i1, i2, i3, hq, hm, hR, hb⟩

theorem Rs.new {w : World} (g : Nat) (hg : g = w.heap.size) (C : Array Value) (t : TypeId) (k : Nat) (rs : List NRec) (hk : rs.length = k) (hC : C.toList = recsV rs) : Rs (w.alloc (.cells C t)) (some ⟨g, 0, none⟩) k rs := by
  subst hg
  refine ⟨hk, .inr ⟨w.heap.size, 0, rfl, fun j hj => ?_⟩⟩
  rw [Nat.zero_add, World.cell?_alloc_mark, ← hC]
  simp

def twoR : List NRec := [⟨0, true, 5⟩, ⟨255, false, 256⟩]
theorem two_ok : noteB 1 2 ((3 : Nat) : Int) twoR = true := by decide
theorem two_take : (sealL (putsL (noteRows 7 1 2 3 twoR))).take 27 = [78, 7, 0, 0, 0, 1, 0, 0, 0, 2, 0, 0, 0, 3, 2, 0, 1, 5, 0, 0, 0, 255, 0, 0, 1, 0, 0] := by
  rw [take_ext _ _ 27 (sealL_len _) fun i hi => sealL_getD _ (by decide +kernel) i (by omega)]
  decide +kernel

set_option maxRecDepth 100000 in
theorem two_any (w : World) : Calls Try.prog 14 #[] w fun e w' => ∃ gs, e = .returned (.agg #[.int .u32 7, .int .u32 1, .int .u32 2, .int .i64 3, .slice (some ⟨gs, 0, none⟩) 2 2]) ∧ Rs w' (some ⟨gs, 0, none⟩) 2 twoR ∧ Below w.heap.size w w' := by
  go_enter Try.func14, Try.ntmps14
  go_wp2_with fail
  obtain ⟨gs, hgs⟩ : ∃ z : Nat, z = w.heap.size + 1 := ⟨_, rfl⟩
  rw [← hgs]
  exact bodyPost_ret (v := .agg #[.int .u32 7, .int .u32 1, .int .u32 2, .int .i64 3, .slice (some ⟨gs, 0, none⟩) 2 2]) (results_cell_row rfl _ _ w.heap.size 25 #[.int .u32 7, .int .u32 1, .int .u32 2, .int .i64 3, .slice (some ⟨gs, 0, none⟩) 2 2] (0, 0) _ rfl (BoxOf.alloc (BoxOf.new w #[.int .u32 7, .int .u32 1, .int .u32 2, .int .i64 3, .slice (some ⟨gs, 0, none⟩) 2 2] 25) _) Try.underlying25 rfl (by kernel_rfl)) rfl ⟨gs, rfl, Rs.new gs (by simp [hgs]) _ _ 2 twoR rfl rfl, Ext.alloc (Ext.alloc (Below.refl _ _) _) _⟩

set_option maxRecDepth 100000 in
set_option maxHeartbeats 1000000 in
theorem nalive_any (w : World) : Calls Try.prog 9 #[] w fun e w' => e = .returned (.bool true) ∧ Below w.heap.size w w' := by
  have HW := Lib.hid (fun gs W (h : Rs W (some ⟨gs, 0, none⟩) 2 twoR) => nwrite_ok 7 1 2 3 gs 0 2 2 twoR (by decide) (by decide) (by decide) (by decide) (by decide) two_ok W h)
  go_enter Try.func9, Try.ntmps9
  go_wp2_with fail
  refine (two_any _).mono ?_
  rintro e w1 ⟨gs, rfl, hR, b1⟩
  go_wp2_with fail
  refine (HW.out _ _ hR).mono ?_
  rintro e w2 ⟨g, rfl, hB, b2⟩
  have t2 := Ext.trans b1 b2
  have sq := run_string_bs (P := Try.prog) 128 32 9 5 Try.underlying32 Try.underlying5 Try.underlying9 (hB.bs.first' 27 (by decide))
  rw [two_take] at sq
  clear b1 b2 hR hB
  go_wp2_with fail
  go_ret
  exact ⟨rfl, t2⟩
end Go.Proofs.Ytggdfecgkhnkkaa
