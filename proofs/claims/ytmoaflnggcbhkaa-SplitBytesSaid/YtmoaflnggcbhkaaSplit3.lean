/- Layer 8 (split): a request's blocks. -/
import Derived.Test.YtmoaflnggcbhkaaSplitRef
import Derived.Test.YtmoaflnggcbhkaaBox2
namespace Go.Proofs.Ytmoaflnggcbhkaa
open Go.RowKit
set_option linter.unusedSimpArgs false
set_option linter.unusedVariables false

theorem info_int : ∃ i, Try.prog.info? 3 = some i ∧ i.zero = some (.int .i64 0) ∧ i.size = 1 ∧ i.bytes = 8 := info_parts (by kernel_rfl)

set_option maxRecDepth 100000 in
theorem sblocks_err (x : Cfg) (k a y : Int) (A : Option Addr) (n q : Nat) (E : Int) (hE : (E != 0) = true) (HC : ∀ W, Calls Try.prog 11 #[x.val, .agg #[.int .u8 k, .int .i64 a, .int .i64 y, .slice A n q]] W fun e w' => e = .returned (.int .i64 E) ∧ Below W.heap.size W w') (w : World) :
    Calls Try.prog 14 #[x.val, .agg #[.int .u8 k, .int .i64 a, .int .i64 y, .slice A n q]] w fun e w' => e = .returned (.tuple #[.slice none 0 0, .int .i64 E]) ∧ Below w.heap.size w w' := by
  have HC' := Lib.hid HC
  clear HC
  obtain ⟨id, m, c, r, l, h⟩ := x
  unfold Cfg.val at *
  dsimp only at *
  go_enter Try.func14, Try.ntmps14
  go_wp2_with fail
  have A0 := BoxOf.new' (w.alloc (.cells #[.int .u32 (id : Int), .int .i64 m, .int .i64 c, .int .i64 r, .int .i64 l, .int .i64 h] 24)) (w.heap.size + 1) #[.int .u8 k, .int .i64 a, .int .i64 y, .slice A n q] 32 (by simp)
  have C0 := BoxOf.alloc (BoxOf.new w #[.int .u32 (id : Int), .int .i64 m, .int .i64 c, .int .i64 r, .int .i64 l, .int .i64 h] 24) (.cells #[.int .u8 k, .int .i64 a, .int .i64 y, .slice A n q] 32)
  have t0 := Ext.alloc (Ext.alloc (Below.refl w.heap.size w) (.cells #[.int .u32 (id : Int), .int .i64 m, .int .i64 c, .int .i64 r, .int .i64 l, .int .i64 h] 24)) (.cells #[.int .u8 k, .int .i64 a, .int .i64 y, .slice A n q] 32)
  refine (HC'.out _).mono ?_
  rintro e w1 ⟨rfl, b1⟩
  have t1 := Ext.trans t0 b1
  go_wp2
  go_ret2
  exact ⟨rfl, t1⟩

def seqI (a : Int) (k : Nat) : List Value := (List.range k).map fun (i : Nat) => Value.int .i64 (a + (i : Int))
theorem seqI_succ (a : Int) (k : Nat) : seqI a (k + 1) = seqI a k ++ [.int .i64 (a + (k : Int))] := by simp [seqI, List.range_succ]
theorem seqI_len (a : Int) (k : Nat) : (seqI a k).length = k := by simp [seqI]

set_option maxRecDepth 100000 in
theorem sblocks_ok (x : Cfg) (k a y : Int) (A : Option Addr) (n q : Nat) (hy : 0 ≤ y ∧ y ≤ 8) (ha : 0 ≤ a ∧ a ≤ 1000) (HC : ∀ W, Calls Try.prog 11 #[x.val, .agg #[.int .u8 k, .int .i64 a, .int .i64 y, .slice A n q]] W fun e w' => e = .returned (.int .i64 0) ∧ Below W.heap.size W w') (w : World) :
    Calls Try.prog 14 #[x.val, .agg #[.int .u8 k, .int .i64 a, .int .i64 y, .slice A n q]] w fun e w' => ∃ v, e = .returned (.tuple #[v, .int .i64 0]) ∧ w'.ownsRow (w.heap.size + 2) 3 1 v y.toNat (seqI a y.toNat) ∧ Below w.heap.size w w' := by
  have HC' := Lib.hid HC
  clear HC
  obtain ⟨i0, hi, hz0, hz1, hz2⟩ := info_int
  obtain ⟨id, m, c, r, l, h⟩ := x
  unfold Cfg.val at *
  dsimp only at *
  obtain ⟨hy1, hy2⟩ := hy
  obtain ⟨ha1, ha2⟩ := ha
  go_enter Try.func14, Try.ntmps14
  go_wp2_with fail
  have A0 := BoxOf.new' (w.alloc (.cells #[.int .u32 (id : Int), .int .i64 m, .int .i64 c, .int .i64 r, .int .i64 l, .int .i64 h] 24)) (w.heap.size + 1) #[.int .u8 k, .int .i64 a, .int .i64 y, .slice A n q] 32 (by simp)
  have C0 := BoxOf.alloc (BoxOf.new w #[.int .u32 (id : Int), .int .i64 m, .int .i64 c, .int .i64 r, .int .i64 l, .int .i64 h] 24) (.cells #[.int .u8 k, .int .i64 a, .int .i64 y, .slice A n q] 32)
  have t0 := Ext.alloc (Ext.alloc (Below.refl w.heap.size w) (.cells #[.int .u32 (id : Int), .int .i64 m, .int .i64 c, .int .i64 r, .int .i64 l, .int .i64 h] 24)) (.cells #[.int .u8 k, .int .i64 a, .int .i64 y, .slice A n q] 32)
  refine (HC'.out _).mono ?_
  rintro e w1 ⟨rfl, b1⟩
  have A1 := A0.next b1
  have t1 := Ext.trans t0 b1
  have x1 := A1.cell
  clear A0 C0 t0 b1
  go_wp2
  go_loopw [4, 16] (fun v i wr => ∃ j : Nat, (j : Int) ≤ y ∧ i = .int .i64 j ∧ wr.ownsRow (w.heap.size + 2) 3 1 v j (seqI a j) ∧ Below w.heap.size w wr ∧ BoxOf wr (w.heap.size + 1) #[.int .u8 k, .int .i64 a, .int .i64 y, .slice A n q] 32) (fun _ i _ => y.toNat - (intOf i).toNat)
  case atStart => exact ⟨0, by omega, rfl, ⟨rfl, .inl ⟨rfl, rfl⟩⟩, t1, A1⟩
  case round =>
    obtain ⟨j, hj, rfl, hown, bj, Aj⟩ := hrel
    have xj := Aj.cell
    have HA := Lib.hid Aj
    clear Aj
    by_cases hlt : (j : Int) < y
    · have hrd : Rd (wr.alloc (.cells #[.int .i64 (a + (j : Int))] 3)) (some ⟨wr.heap.size, 0, none⟩) [.int .i64 (a + (j : Int))] := .inr ⟨wr.heap.size, 0, rfl, fun o ho => by
        have h0 : o = 0 := by simpa using ho
        subst h0
        rw [World.cell?_alloc_mark]
        rfl⟩
      have HR := Lib.hid hrd
      have HO := Lib.hid (hown.alloc (.cells #[.int .i64 (a + (j : Int))] 3))
      have HS := Lib.hid (seqI_succ a j)
      have hsz := bj.size
      have HS2 : Hid (w.heap.size + 2 ≤ wr.heap.size) := HA.out.lt
      have l2 := HA.out.lt
      clear hrd hown
      go_wp2_with (at_builtin; refine wpList_append_rd _ rfl (.tmp 19) (.tmp 24) _ rfl (w.heap.size + 2) 3 i0 (.int .i64 0) 1 8 Try.underlying37 hi hz0 hz1 hz2 rfl (by decide) u4 j (seqI a j) rfl HO.out (some ⟨wr.heap.size, 0, none⟩) 1 1 [.int .i64 (a + (j : Int))] rfl rfl HR.out (by simp [Value.oneCell']) (by unfold maxLen; omega) (by omega) (by have := HS2.out; simp; omega) ?_; intro v' w2 hown2 hgrow2 _)
      go_roundw
      case rel =>
        refine ⟨j + 1, by omega, by go_num, by rw [HS.out]; exact hown2, ?_, (HA.out.alloc _).grown hgrow2 (own_ne HO.out (by omega))⟩
        exact Below.grown (Ext.alloc bj _) hgrow2 (by simp; omega) (fun k hk => by have := own_block HO.out hk; omega)
      case measure => simp [intOf]; omega
    · have hjy : j = y.toNat := by omega
      go_wp2
      go_ret2
      exact ⟨_, rfl, by rw [← hjy]; exact hown, bj⟩
end Go.Proofs.Ytmoaflnggcbhkaa
