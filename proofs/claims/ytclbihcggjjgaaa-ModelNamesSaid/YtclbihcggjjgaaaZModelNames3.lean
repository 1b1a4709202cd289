/- What this claim needs of my texts, merged (part 3). -/
import Derived.BigQuiet
import Derived.Lib.SliceRun
import Derived.Deep.RegionLaw
import Derived.Test.YtclbihcggjjgaaaZModelNames2
/- Layer 30 (model): the program: a request goes on. -/
namespace Go.Proofs.Ytclbihcggjjgaaa
open Go Go.RowKit
set_option linter.unusedSimpArgs false
set_option linter.unusedVariables false

def numB (n : Int) (g : GoTy.T) : Bool := decide (n ≤ nuOf g)
theorem begin1_any (g : GoTy.T) (Ab : Option Addr) (cg : Nat) (Am : Option Addr) (lm cm : Nat) (number : Int) (gn : Nat) (w : World) (B1 : BoxOf w gn #[.int .i64 number] 3) :
    Calls Try.prog 61 #[.agg #[.int .i64 (nuOf g), .int .u8 ((kiOf g).toNat : Int), .int .i64 (atOf g), .int .i64 (manyOf g), .slice Ab (datOf g).length cg, .slice Am lm cm], .pointer (some ⟨gn, 0, none⟩)] w fun e w' => e = .returned (.bool (numB number g)) ∧ Below w.heap.size w w' := by
  have P0 := BoxOf.new w #[.int .i64 (nuOf g), .int .u8 ((kiOf g).toNat : Int), .int .i64 (atOf g), .int .i64 (manyOf g), .slice Ab (datOf g).length cg, .slice Am lm cm] 64
  have t0 := Ext.alloc (Below.refl w.heap.size w) (.cells #[.int .i64 (nuOf g), .int .u8 ((kiOf g).toNat : Int), .int .i64 (atOf g), .int .i64 (manyOf g), .slice Ab (datOf g).length cg, .slice Am lm cm] 64)
  have C1 := B1.alloc (.cells #[.int .i64 (nuOf g), .int .u8 ((kiOf g).toNat : Int), .int .i64 (atOf g), .int .i64 (manyOf g), .slice Ab (datOf g).length cg, .slice Am lm cm] 64)
  unfold numB
  clear B1
  go_enter Try.func61, Try.ntmps61
  go_upto_region 1 with fail
  generalize w.alloc (.cells #[.int .i64 (nuOf g), .int .u8 ((kiOf g).toNat : Int), .int .i64 (atOf g), .int .i64 (manyOf g), .slice Ab (datOf g).length cg, .slice Am lm cm] 64) = W at *
  have x0 := P0.cell
  have y1 := C1.cell
  go_wp2
  go_ret
  exact ⟨rfl, t0⟩

set_option maxRecDepth 100000 in
set_option maxHeartbeats 2000000 in
theorem idxg_begin (S : Nat → Prop) (gs : List GoTy.T) (B : Option Addr) (d : Nat) (number : Int) (gn : Nat) (w : World) (hg : RdIn w S (.sl GoTy) gs [.slice B gs.length d]) (B1 : BoxOf w gn #[.int .i64 number] 3) :
    Calls Try.prog 56 #[.slice B gs.length d, .func (.func 61) #[] #[.pointer (some ⟨gn, 0, none⟩)]] w fun e w' => AtIs (SomeIs (numB number) gs) e ∧ Below w.heap.size w w' := by
  have HG := Lib.hid hg
  have HGM := Lib.hid (go_max hg)
  have HLE : Hid (∀ w', Below w.heap.size w w' → ∀ (g : GoTy.T) (Ab : Option Addr) (cg : Nat) (Am : Option Addr) (lm cm : Nat), Calls Try.prog 61 #[.agg #[.int .i64 (nuOf g), .int .u8 ((kiOf g).toNat : Int), .int .i64 (atOf g), .int .i64 (manyOf g), .slice Ab (datOf g).length cg, .slice Am lm cm], .pointer (some ⟨gn, 0, none⟩)] w' fun e w'' => e = .returned (.bool (numB number g)) ∧ Below w'.heap.size w' w'') := fun w' bb g Ab cg Am lm cm => begin1_any g Ab cg Am lm cm number gn w' (B1.next bb)
  clear hg
  go_enter Try.func56, Try.ntmps56
  go_upto_region 1 with fail
  obtain ⟨W, hW⟩ : ∃ z : World, z = w := ⟨_, rfl⟩
  have b0 : Below W.heap.size W w := by rw [hW]; exact Below.refl _ _
  have HWW := Lib.hid hW
  rw [← hW] at HG
  clear hW
  go_wp2
  go_loopw [5, 8] (fun v i wr => ∃ (j : Nat), j ≤ gs.length ∧ i = .int .i64 j ∧ Below W.heap.size W wr ∧ Hid (∀ i, i < j → NotAt (numB number) gs i)) (fun _ i _ => gs.length - (intOf i).toNat)
  case atStart => exact ⟨0, by omega, rfl, b0, fun i h => absurd h (Nat.not_lt_zero _)⟩
  case round =>
    obtain ⟨j, hj, rfl, b1, HA⟩ := hrel
    clear b0
    have bw : Below w.heap.size w wr := by have := HWW.out; subst this; exact b1
    by_cases hlt : j < gs.length
    · obtain ⟨b, off, Ab, cg, Am, cm, rfl, q0, q1, q2, q3, q4, q5, i0, i1, i2, rb, rm⟩ := go_at (HG.out.below b1) hlt
      have HSK : Hid (NotAt (numB number) gs j ↔ (numB number) gs[j] = false) := ⟨fun h => h hlt, fun h _ => h⟩
      have HSY : Hid ((numB number) gs[j] = true → SomeIs (numB number) gs) := fun h => ⟨j, hlt, h⟩
      skip
      generalize gs[j] = g at *
      have HWJ := next_wrap HGM.out hlt
      have HLJ := Lib.hid hlt
      have HRB := Lib.hid rb
      clear rb rm i0 i1 i2
      rcases Bool.eq_false_or_eq_true ((numB number) g) with e1 | e1
      · have HF := Lib.hid (HSY.out e1)
        skip
        go_wp2_with (go_at_call 61; refine (HLE.out _ bw _ _ _ _ _ _).mono ?_; rintro e w3 ⟨rfl, b3⟩)
        go_ret
        exact ⟨AtIs.at HF.out, Ext.trans bw b3⟩
      · have HA' : Hid (∀ i, i < j + 1 → NotAt (numB number) gs i) := by
          intro i hi
          by_cases h : i = j
          · subst h
            exact HSK.out.2 e1
          · exact HA.out i (by omega)
        skip
        go_wp2_with (go_at_call 61; refine (HLE.out _ bw _ _ _ _ _ _).mono ?_; rintro e w3 ⟨rfl, b3⟩)
        have b5 := Ext.trans b1 b3
        go_roundw
        case rel => exact ⟨j + 1, HLJ.out, by first | exact round_same HWJ | go_num, b5, HA'⟩
        case measure => first | exact round_less HWJ HLJ.out | (have h := HLJ.out; simp [intOf]; omega)
    · have HN := Lib.hid (SomeIs.not HA.out hlt)
      go_wp2
      go_ret
      exact ⟨AtIs.not HN.out, bw⟩
theorem hasg_begin (S : Nat → Prop) (gs : List GoTy.T) (B : Option Addr) (d : Nat) (number : Int) (gn : Nat) (w : World) (hg : RdIn w S (.sl GoTy) gs [.slice B gs.length d]) (B1 : BoxOf w gn #[.int .i64 number] 3) :
    Calls Try.prog 60 #[.slice B gs.length d, .func (.func 61) #[] #[.pointer (some ⟨gn, 0, none⟩)]] w fun e w' => YesNo (SomeIs (numB number) gs) e ∧ Below w.heap.size w w' := by
  have HC := Lib.hid (idxg_begin S gs B d number gn w hg B1)
  clear hg B1
  go_enter Try.func60, Try.ntmps60
  go_wp2_with fail
  refine HC.out.mono ?_
  rintro e w1 ⟨⟨n, rfl, hn⟩, b1⟩
  have HN := Lib.hid hn
  clear hn
  go_wp2
  go_ret
  exact ⟨YesNo.of (by rw [decide_eq_true_iff]; exact HN.out), b1⟩

/-- marks of a flush: the last value of each block -/
def lastOf (ys : List (List (List UInt8))) : List Int := ys.map fun l => (l.length : Int) - 1
def mkOf (ki : UInt8) (ys : List (List (List UInt8))) : List Int := if ki = 4 then lastOf ys else []
def newGo (number : Int) (ki : UInt8) (a y : Int) (bs : List UInt8) (ys : List (List (List UInt8))) : GoTy.T := (number, (ki, a, y, bs, ()), mkOf ki ys, ())
/-- what Begin answers -/
def BegRel (x : Cfg) (ys : List (List (List UInt8))) (gs : List GoTy.T) (number : Int) (ki : UInt8) (a y : Int) (bs : List UInt8) (v : Int) (zs : List (List (List UInt8))) (hs : List GoTy.T) : Prop :=
  (¬ PlainOk x ys gs ∧ v = 8 ∧ zs = [] ∧ hs = []) ∨
  (PlainOk x ys gs ∧ ¬ askCode x (ki.toNat : Int) a y bs.length = 0 ∧ v = askCode x (ki.toNat : Int) a y bs.length ∧ zs = [] ∧ hs = []) ∨
  (PlainOk x ys gs ∧ askCode x (ki.toNat : Int) a y bs.length = 0 ∧ ¬ (1 ≤ number ∧ ¬ SomeIs (numB number) gs) ∧ v = 2 ∧ zs = [] ∧ hs = []) ∨
  (PlainOk x ys gs ∧ askCode x (ki.toNat : Int) a y bs.length = 0 ∧ (1 ≤ number ∧ ¬ SomeIs (numB number) gs) ∧ gs.length = 8 ∧ v = 9 ∧ zs = [] ∧ hs = []) ∨
  (PlainOk x ys gs ∧ askCode x (ki.toNat : Int) a y bs.length = 0 ∧ (1 ≤ number ∧ ¬ SomeIs (numB number) gs) ∧ ¬ gs.length = 8 ∧ v = 0 ∧ zs = ys ∧ hs = gs ++ [newGo number ki a y bs ys])
theorem BegRel.one {x : Cfg} {ys : List (List (List UInt8))} {gs : List GoTy.T} {number : Int} {ki : UInt8} {a y : Int} {bs : List UInt8} {v v' : Int} {zs zs' : List (List (List UInt8))} {hs hs' : List GoTy.T} (h : BegRel x ys gs number ki a y bs v zs hs) (h' : BegRel x ys gs number ki a y bs v' zs' hs') : v = v' ∧ zs = zs' ∧ hs = hs' := by
  rcases h with ⟨h1, rfl, rfl, rfl⟩ | ⟨h1, h2, rfl, rfl, rfl⟩ | ⟨h1, h2, h3, rfl, rfl, rfl⟩ | ⟨h1, h2, h3, h4, rfl, rfl, rfl⟩ | ⟨h1, h2, h3, h4, rfl, rfl, rfl⟩ <;> rcases h' with ⟨k1, rfl, rfl, rfl⟩ | ⟨k1, k2, rfl, rfl, rfl⟩ | ⟨k1, k2, k3, rfl, rfl, rfl⟩ | ⟨k1, k2, k3, k4, rfl, rfl, rfl⟩ | ⟨k1, k2, k3, k4, rfl, rfl, rfl⟩ <;>
    first | exact ⟨rfl, rfl, rfl⟩ | exact absurd h1 k1 | exact absurd k1 h1 | exact absurd h2 k2 | exact absurd k2 h2 | exact absurd h3 k3 | exact absurd k3 h3 | exact absurd h4 k4 | exact absurd k4 h4
def BegIs (base : Nat) (x : Cfg) (ys : List (List (List UInt8))) (gs : List GoTy.T) (number : Int) (ki : UInt8) (a y : Int) (bs : List UInt8) (e : Ending) (w : World) : Prop :=
  ∃ (v : Int) (zs : List (List (List UInt8))) (hs : List GoTy.T) (A' : Option Addr) (c' : Nat) (B' : Option Addr) (d' : Nat), e = .returned (.tuple #[.agg #[.slice A' zs.length c', .slice B' hs.length d'], .int .i64 v]) ∧ BegRel x ys gs number ki a y bs v zs hs ∧ RdIn w (NewB base w) (.sl (.sl (.sl .byte))) zs [.slice A' zs.length c'] ∧ RdIn w (NewB base w) (.sl GoTy) hs [.slice B' hs.length d']
theorem rdin_nilg (w : World) (S : Nat → Prop) : RdIn w S (.sl GoTy) [] [.slice none 0 0] := rdin_sl.2 ⟨none, 0, rfl, by simp, by simp [maxLen], by simp, .inl rfl⟩
theorem BegIs.err {base : Nat} {x : Cfg} {ys : List (List (List UInt8))} {gs : List GoTy.T} {number : Int} {ki : UInt8} {a y : Int} {bs : List UInt8} {w : World} {v : Int} (h : BegRel x ys gs number ki a y bs v [] []) : BegIs base x ys gs number ki a y bs (.returned (.tuple #[.agg #[.slice none 0 0, .slice none 0 0], .int .i64 v])) w :=
  ⟨v, [], [], none, 0, none, 0, rfl, h, rdin_nil3 _ _, rdin_nilg _ _⟩
theorem MarksO.of_own {w : World} {base : Nat} {tid : TypeId} {v : Value} {ms : List Int} (h : w.ownsRow base tid 1 v ms.length (ms.map fun x => Value.int .i64 x)) : MarksO w (Iv base w.heap.size) tid v ms := by
  rcases h.2 with ⟨rfl, h0⟩ | ⟨g, cap, cur, rfl, hg, hh, h5, h6, h7, h8⟩
  · exact .inl ⟨List.eq_nil_of_length_eq_zero h0, none, 0, rfl, by unfold maxLen; omega⟩
  · exact .inr ⟨g, cap, cur, rfl, ⟨hg, (Array.getElem?_eq_some_iff.1 hh).1⟩, hh, h5, h6, by rw [h7, Nat.mul_one], by rw [Nat.mul_one] at h8; exact h8⟩
theorem wpList_pushE {P : Program} {w : World} {α : Type} {n : Nat} {EP : ElemP α n} {ops : Array Oper} {rest : List Oper} {o : Oper} {a : Act} {Q : Exit → Act → World → Prop} (hgd : o.guard = none) (s x : Operand) (t : TypeId)
    (ho : o.op = .call { callee := .builtin .append, args := #[s, x], argTypes := #[t, t] })
    (base : Nat) (tid : TypeId) (i : TypeInfo) (z : Value) (bytes : Nat) (ht : P.underlying t = some (.slice tid)) (hi : P.info? tid = some i) (hz : i.zero = some z)
    (hsize : i.size = n) (hby : i.bytes = bytes) (hzs : z.cells.size = n) (hsz : 0 < n)
    (v : Value) (xs : List α) (F T : Nat → Prop) (hs : a.eval s = v) (hown : OwnE EP w F base tid v xs) (hF : ∀ b, F b → b < w.heap.size)
    (A : Option Addr) (c : Nat) (news : List Value) (hx : a.eval x = .slice A 1 c) (hr : Rd w A news) (y : α) (hy : EP.E w T y news) (hT : ∀ b, T b → ¬ F b ∧ b < w.heap.size)
    (h63 : xs.length + 1 ≤ maxLen) (hbytes : (xs.length + 1) * bytes ≤ 140737488355328) (hbase : base ≤ w.heap.size)
    (h : ∀ v' w', OwnE EP w' (fun b => F b ∨ T b ∨ v'.ownBlock = some b) base tid v' (xs ++ [y]) → w.grownBy w' v.ownBlock → (∀ r, v.ownBlock = some r → base ≤ r) → wpList P ops Q rest (a.put o.dst v') w') : wpList P ops Q (o :: rest) a w :=
  wpList_plain hgd fun _ hK => wp_pushE s x t ho base tid i z bytes ht hi hz hsize hby hzs hsz v xs F T hs hown hF A c news hx hr y hy hT h63 hbytes hbase fun v' w' h2 h3 h4 => hK _ _ (h v' w' h2 h3 h4)
theorem own_form {w : World} {base : Nat} {e : TypeId} {size : Nat} {v : Value} {n : Nat} {xs : List Value} (h : w.ownsRow base e size v n xs) : ∃ A c, v = .slice A n c := by
  rcases h.2 with ⟨rfl, h0⟩ | ⟨g, cap, cur, rfl, _⟩
  · exact ⟨none, 0, by rw [h0]⟩
  · exact ⟨_, _, rfl⟩
/-- a box of another type is no row of one's own -/
theorem OwnE.box_ne {α : Type} {n : Nat} {P : ElemP α n} {w : World} {F : Nat → Prop} {base g : Nat} {tid t : TypeId} {v : Value} {xs : List α} {cs : Array Value} (h : OwnE P w F base tid v xs) (hb : BoxOf w g cs t) (ht : t ≠ tid) : v.ownBlock ≠ some g := by
  obtain ⟨ess, _, ho⟩ := h.own
  rcases ho.2 with ⟨rfl, _⟩ | ⟨g', cap, cur, rfl, _, hh, _⟩
  · intro e; cases e
  · intro e
    have e' : g' = g := Option.some.inj e
    subst e'
    unfold BoxOf at hb
    rw [hb] at hh
    have h1 := Option.some.inj hh
    injection h1 with _ h2
    exact ht h2
def mkV (ys : List (List (List UInt8))) (j : Nat) : List Value := ((lastOf ys).take j).map fun x => Value.int .i64 x
theorem lastOf_len (ys : List (List (List UInt8))) : (lastOf ys).length = ys.length := List.length_map _
theorem mkV_step {ys : List (List (List UInt8))} {j : Nat} (h : j < ys.length) : mkV ys (j + 1) = mkV ys j ++ [.int .i64 (((ys[j]).length : Int) - 1)] := by
  unfold mkV
  have h' : j < (lastOf ys).length := by rw [lastOf_len]; exact h
  rw [List.take_succ_eq_append_getElem h', List.map_append]
  congr 1
  simp [lastOf]
theorem own_setLo {w : World} {lo : Nat} {e : TypeId} {size : Nat} {v : Value} {n : Nat} {xs : List Value} (h : w.ownsRow (lo + 1) e size v n xs) (i : Nat) (u : Value) : (w.setCell ⟨lo, i, none⟩ u).ownsRow (lo + 1) e size v n xs :=
  own_frame h fun r hr => Below.heap_setCell _ _ _ _ (show r ≠ lo by have := own_block h hr; omega)
theorem mkV_all (ys : List (List (List UInt8))) : mkV ys ys.length = (lastOf ys).map fun x => Value.int .i64 x := by
  unfold mkV
  rw [List.take_of_length_le (by rw [lastOf_len]; omega)]

set_option maxRecDepth 100000 in
set_option maxHeartbeats 4000000 in
theorem sbegin_any (S : Nat → Prop) (x : Cfg) (ys : List (List (List UInt8))) (gs : List GoTy.T) (A : Option Addr) (ca : Nat) (B : Option Addr) (cb : Nat) (number : Int) (hnum : IsInt number) (ki : UInt8) (a y : Int) (D : Option Addr) (dc : Nat) (bs : List UInt8) (w : World) (hy : RdIn w S (.sl (.sl (.sl .byte))) ys [.slice A ys.length ca]) (hg : RdIn w S (.sl GoTy) gs [.slice B gs.length cb]) (hd : RdIn w S (.sl .byte) bs [.slice D bs.length dc]) :
    Calls Try.prog 24 #[x.val, .agg #[.slice A ys.length ca, .slice B gs.length cb], .int .i64 number, .agg #[.int .u8 (ki.toNat : Int), .int .i64 a, .int .i64 y, .slice D bs.length dc]] w fun e w' => BegIs w.heap.size x ys gs number ki a y bs e w' ∧ Below w.heap.size w w' := by
  obtain ⟨iu, hu, hu0, hu1, hu2⟩ := minfo_u8
  obtain ⟨ii, hii, hi0, hi1, hi2⟩ := minfo_int
  obtain ⟨ig, hig, hg0, hg1, hg2⟩ := minfo_going
  have HPC : Hid (∀ w', Below w.heap.size w w' → Calls Try.prog 18 #[x.val, .agg #[.slice A ys.length ca, .slice B gs.length cb]] w' fun e w'' => OkBad (PlainOk x ys gs) e ∧ Below w'.heap.size w' w'') := fun w' bb => spcheck_any S x ys gs A ca B cb w' (hy.below bb) (hg.below bb)
  have HSC : Hid (∀ w', Calls Try.prog 47 #[x.val, .agg #[.int .u8 (ki.toNat : Int), .int .i64 a, .int .i64 y, .slice D bs.length dc]] w' fun e w'' => e = .returned (.int .i64 (askCode x (ki.toNat : Int) a y bs.length)) ∧ Below w'.heap.size w' w'') := fun w' => scheck_all x (ki.toNat : Int) a y D bs.length dc w'
  have HCF : Hid (∀ w', Below w.heap.size w w' → BoxOf w' (w.heap.size + 2) #[.int .i64 number] 3 → Calls Try.prog 60 #[.slice B gs.length cb, .func (.func 61) #[] #[.pointer (some ⟨w.heap.size + 2, 0, none⟩)]] w' fun e w'' => YesNo (SomeIs (numB number) gs) e ∧ Below w'.heap.size w' w'') := fun w' bb hB => hasg_begin S gs B cb number (w.heap.size + 2) w' (hg.below bb) hB
  have HTW : Hid (∀ w', Below w.heap.size w w' → Calls Try.prog 33 #[.agg #[.slice A ys.length ca, .slice B gs.length cb]] w' fun e w'' => TwinIs w'.heap.size ys gs e w'' ∧ Below w'.heap.size w' w'') := fun w' bb => stwin_any S ys gs A ca B cb w' (hy.below bb) (hg.below bb)
  have HCL : Hid (∀ w', Below w.heap.size w w' → Calls Try.prog 44 #[.slice D bs.length dc] w' fun e w'' => (∃ v, e = .returned v ∧ RdIn w'' (NewB w'.heap.size w'') (.sl .byte) bs [v]) ∧ Below w'.heap.size w' w'') := fun w' bb => clone_any S bs D dc w' (hd.below bb)
  have HY := Lib.hid hy
  have HN := Lib.hid hnum
  have HYM := Lib.hid (may_max hy)
  have hyz : Hid (ys.length * 24 ≤ 140737488355328) := by
    obtain ⟨_, _, _, _, h1, _⟩ := view3 hy
    exact h1
  clear hy hg hd hnum
  have hmf : ∀ (fn : Fn) (first cap : Array Value) (w : World), (Instr.makeFunc fn first cap).run Try.prog w = .ok (.func fn first cap) w := fun _ _ _ _ => rfl
  obtain ⟨id, m, c, r, l, h⟩ := x
  unfold Cfg.val at *
  dsimp only at *
  have C0 := BoxOf.alloc (BoxOf.alloc (BoxOf.alloc (BoxOf.alloc (BoxOf.new w #[.int .u32 (id : Int), .int .i64 m, .int .i64 c, .int .i64 r, .int .i64 l, .int .i64 h] 24) (.cells #[.slice A ys.length ca, .slice B gs.length cb] 28)) (.cells #[.int .i64 number] 3)) (.cells #[.int .u8 (ki.toNat : Int), .int .i64 a, .int .i64 y, .slice D bs.length dc] 58)) (.cells #[.slice none 0 0, .slice none 0 0] 28)
  have P0 := BoxOf.alloc (BoxOf.alloc (BoxOf.alloc (BoxOf.new' (w.alloc (.cells #[.int .u32 (id : Int), .int .i64 m, .int .i64 c, .int .i64 r, .int .i64 l, .int .i64 h] 24)) (w.heap.size + 1) #[.slice A ys.length ca, .slice B gs.length cb] 28 (by simp)) (.cells #[.int .i64 number] 3)) (.cells #[.int .u8 (ki.toNat : Int), .int .i64 a, .int .i64 y, .slice D bs.length dc] 58)) (.cells #[.slice none 0 0, .slice none 0 0] 28)
  have N0 := BoxOf.alloc (BoxOf.alloc (BoxOf.new' ((w.alloc (.cells #[.int .u32 (id : Int), .int .i64 m, .int .i64 c, .int .i64 r, .int .i64 l, .int .i64 h] 24)).alloc (.cells #[.slice A ys.length ca, .slice B gs.length cb] 28)) (w.heap.size + 2) #[.int .i64 number] 3 (by simp)) (.cells #[.int .u8 (ki.toNat : Int), .int .i64 a, .int .i64 y, .slice D bs.length dc] 58)) (.cells #[.slice none 0 0, .slice none 0 0] 28)
  have Q0 := BoxOf.alloc (BoxOf.new' (((w.alloc (.cells #[.int .u32 (id : Int), .int .i64 m, .int .i64 c, .int .i64 r, .int .i64 l, .int .i64 h] 24)).alloc (.cells #[.slice A ys.length ca, .slice B gs.length cb] 28)).alloc (.cells #[.int .i64 number] 3)) (w.heap.size + 3) #[.int .u8 (ki.toNat : Int), .int .i64 a, .int .i64 y, .slice D bs.length dc] 58 (by simp)) (.cells #[.slice none 0 0, .slice none 0 0] 28)
  have Z0 := BoxOf.new' ((((w.alloc (.cells #[.int .u32 (id : Int), .int .i64 m, .int .i64 c, .int .i64 r, .int .i64 l, .int .i64 h] 24)).alloc (.cells #[.slice A ys.length ca, .slice B gs.length cb] 28)).alloc (.cells #[.int .i64 number] 3)).alloc (.cells #[.int .u8 (ki.toNat : Int), .int .i64 a, .int .i64 y, .slice D bs.length dc] 58)) (w.heap.size + 4) #[.slice none 0 0, .slice none 0 0] 28 (by simp)
  have t0 := Ext.alloc (Ext.alloc (Ext.alloc (Ext.alloc (Ext.alloc (Below.refl w.heap.size w) (.cells #[.int .u32 (id : Int), .int .i64 m, .int .i64 c, .int .i64 r, .int .i64 l, .int .i64 h] 24)) (.cells #[.slice A ys.length ca, .slice B gs.length cb] 28)) (.cells #[.int .i64 number] 3)) (.cells #[.int .u8 (ki.toNat : Int), .int .i64 a, .int .i64 y, .slice D bs.length dc] 58)) (.cells #[.slice none 0 0, .slice none 0 0] 28)
  go_enter Try.func24, Try.ntmps24
  go_upto_region 1 with fail
  generalize ((((w.alloc (.cells #[.int .u32 (id : Int), .int .i64 m, .int .i64 c, .int .i64 r, .int .i64 l, .int .i64 h] 24)).alloc (.cells #[.slice A ys.length ca, .slice B gs.length cb] 28)).alloc (.cells #[.int .i64 number] 3)).alloc (.cells #[.int .u8 (ki.toNat : Int), .int .i64 a, .int .i64 y, .slice D bs.length dc] 58)).alloc (.cells #[.slice none 0 0, .slice none 0 0] 28) = W at *
  have c0 := C0.cell
  have p0 := P0.cell
  go_wp2_with fail
  refine (HPC.out _ t0).mono ?_
  rintro e w1 ⟨h1, b1⟩
  have C1 := C0.next b1
  have c1 := C1.cell
  have P1 := P0.next b1
  have N1 := N0.next b1
  have Q1 := Q0.next b1
  have Z1 := Z0.next b1
  have t1 := Ext.trans t0 b1
  have p1 := P1.cell
  have n1 := N1.cell
  have q1 := Q1.cell
  have z1 := Z1.cell
  have f1 := Z1.free
  clear c0 p0 C0 P0 N0 Q0 Z0 t0 b1
  rcases h1 with ⟨hok, rfl⟩ | ⟨hno, rfl⟩
  · have HOK := Lib.hid hok
    clear hok
    go_wp2_with fail
    refine (HSC.out _).mono ?_
    rintro e w2 ⟨rfl, b2⟩
    have P2 := P1.next b2
    have N2 := N1.next b2
    have Q2 := Q1.next b2
    have Z2 := Z1.next b2
    have t2 := Ext.trans t1 b2
    have p2 := P2.cell
    have n2 := N2.cell
    have q2 := Q2.cell
    have z2 := Z2.cell
    have f2 := Z2.free
    clear c1 C1 p1 n1 q1 z1 f1 P1 N1 Q1 Z1 t1 b2
    by_cases hc : askCode ⟨id, m, c, r, l, h⟩ (ki.toNat : Int) a y bs.length = 0
    · have HC0 := Lib.hid hc
      rw [hc]
      clear hc
      rcases Bool.eq_false_or_eq_true (decide (number < 1)) with e1 | e1
      · have HLT : Hid (number < 1) := by show _ < _; exact of_decide_eq_true e1
        go_wp2
        have f9 := (Z2).free
        have B5 : BoxOf _ (w.heap.size + 4) #[.slice none 0 0, .slice none 0 0] 28 := mbox_self (mbox_self Z2 0 (.slice none 0 0)) 1 (.slice none 0 0)
        have T5 := Below.setCell (p := ⟨w.heap.size + 4, 1, none⟩) (Below.setCell (p := ⟨w.heap.size + 4, 0, none⟩) t2 (show w.heap.size ≤ w.heap.size + 4 by omega) (.slice none 0 0)) (show w.heap.size ≤ w.heap.size + 4 by omega) (.slice none 0 0)
        exact bodyPost_ret (v := .tuple #[.agg #[.slice none 0 0, .slice none 0 0], .int .i64 (2)]) (Eq.trans (results_row2 (P := Try.prog) (fn := Try.f24) (p := 8) (u := 9) (ty := 28) rfl _ _ (w.heap.size + 4) 28 #[.slice none 0 0, .slice none 0 0] (0, 0) _ rfl B5 Try.underlying28 rfl (by kernel_rfl)) rfl) rfl ⟨BegIs.err (.inr (.inr (.inl ⟨HOK.out, HC0.out, fun h => by have := HLT.out; omega, rfl, rfl, rfl⟩))), T5⟩
      · have HGE : Hid (1 ≤ number) := by have := of_decide_eq_false e1; show _ ≤ _; omega
        go_wp2_with fail
        refine (HCF.out _ t2 N2).mono ?_
        rintro e w3 ⟨⟨bv, rfl, hbv⟩, b3⟩
        have P3 := P2.next b3
        have N3 := N2.next b3
        have Q3 := Q2.next b3
        have Z3 := Z2.next b3
        have t3 := Ext.trans t2 b3
        have p3 := P3.cell
        have n3 := N3.cell
        have q3 := Q3.cell
        have z3 := Z3.cell
        have f3 := Z3.free
        have HBV := Lib.hid hbv
        clear hbv p2 n2 q2 z2 f2 P2 N2 Q2 Z2 t2 b3
        cases bv with
        | true =>
          go_wp2
          have f9 := (Z3).free
          have B5 : BoxOf _ (w.heap.size + 4) #[.slice none 0 0, .slice none 0 0] 28 := mbox_self (mbox_self Z3 0 (.slice none 0 0)) 1 (.slice none 0 0)
          have T5 := Below.setCell (p := ⟨w.heap.size + 4, 1, none⟩) (Below.setCell (p := ⟨w.heap.size + 4, 0, none⟩) t3 (show w.heap.size ≤ w.heap.size + 4 by omega) (.slice none 0 0)) (show w.heap.size ≤ w.heap.size + 4 by omega) (.slice none 0 0)
          exact bodyPost_ret (v := .tuple #[.agg #[.slice none 0 0, .slice none 0 0], .int .i64 (2)]) (Eq.trans (results_row2 (P := Try.prog) (fn := Try.f24) (p := 8) (u := 9) (ty := 28) rfl _ _ (w.heap.size + 4) 28 #[.slice none 0 0, .slice none 0 0] (0, 0) _ rfl B5 Try.underlying28 rfl (by kernel_rfl)) rfl) rfl ⟨BegIs.err (.inr (.inr (.inl ⟨HOK.out, HC0.out, fun h => h.2 (HBV.out.1 (by first | rfl | trivial)), rfl, rfl, rfl⟩))), T5⟩
        | false =>
          have HNO : Hid (1 ≤ number ∧ ¬ SomeIs (numB number) gs) := ⟨HGE.out, fun h => by have := HBV.out.2 h; cases this⟩
          rcases Bool.eq_false_or_eq_true (decide ((gs.length : Int) = 8)) with e2 | e2
          · have HL : Hid (gs.length = 8) := by have := of_decide_eq_true e2; show _ = _; omega
            have e2' : ((gs.length : Int) == 8) = true := by have := of_decide_eq_true e2; simp [this]
            go_wp2
            have f9 := (Z3).free
            have B5 : BoxOf _ (w.heap.size + 4) #[.slice none 0 0, .slice none 0 0] 28 := mbox_self (mbox_self Z3 0 (.slice none 0 0)) 1 (.slice none 0 0)
            have T5 := Below.setCell (p := ⟨w.heap.size + 4, 1, none⟩) (Below.setCell (p := ⟨w.heap.size + 4, 0, none⟩) t3 (show w.heap.size ≤ w.heap.size + 4 by omega) (.slice none 0 0)) (show w.heap.size ≤ w.heap.size + 4 by omega) (.slice none 0 0)
            exact bodyPost_ret (v := .tuple #[.agg #[.slice none 0 0, .slice none 0 0], .int .i64 (9)]) (Eq.trans (results_row2 (P := Try.prog) (fn := Try.f24) (p := 8) (u := 9) (ty := 28) rfl _ _ (w.heap.size + 4) 28 #[.slice none 0 0, .slice none 0 0] (0, 0) _ rfl B5 Try.underlying28 rfl (by kernel_rfl)) rfl) rfl ⟨BegIs.err (.inr (.inr (.inr (.inl ⟨HOK.out, HC0.out, HNO.out, HL.out, rfl, rfl, rfl⟩)))), T5⟩
          · have HL : Hid (¬ gs.length = 8) := by have := of_decide_eq_false e2; show ¬ _; omega
            have e2' : ((gs.length : Int) == 8) = false := by have := of_decide_eq_false e2; simpa using this
            go_wp2_with fail
            refine (HTW.out _ t3).mono ?_
            rintro e w4 ⟨⟨vy, vg, mm, rfl, hm1, hm2, O4, G4⟩, b4⟩
            obtain ⟨Ay, cy, rfl⟩ := O4.slice
            obtain ⟨Ag, cg, rfl⟩ := G4.slice
            have hw34 := t3.size
            have hz3 := Z3.lt
            have P4 := P3.next b4
            have N4 := N3.next b4
            have Q4 := Q3.next b4
            have Z4 := Z3.next b4
            have t4 := Ext.trans t3 b4
            have p4 := P4.cell
            have n4 := N4.cell
            have q4 := Q4.cell
            have z4 := Z4.cell
            have f4 := Z4.free
            clear p3 n3 q3 z3 f3 P3 N3 Q3 Z3 t3 b4 p4 n4 q4 z4 f4
            have hb1 := Ext.alloc (Below.refl w4.heap.size w4) (.cells #[.slice Ay ys.length cy, .slice Ag gs.length cg] 28)
            have T5 := BoxOf.new w4 #[.slice Ay ys.length cy, .slice Ag gs.length cg] 28
            have N5 := N4.next hb1
            have Q5 := Q4.next hb1
            have P5 := P4.next hb1
            have Z5 := Z4.next hb1
            have t5 := Ext.trans t4 hb1
            have O5 := O4.next (fun b hb => Nat.lt_of_lt_of_le hb.2 hm2) hb1
            have G5 := G4.next (fun b hb => hb.2) hb1
            have hgl := G4.lt
            have hs5 := T5.lt
            obtain ⟨tb, htb⟩ : ∃ z : Nat, z = w4.heap.size := ⟨_, rfl⟩
            obtain ⟨lo3, hlo3⟩ : ∃ z : Nat, z = w3.heap.size := ⟨_, rfl⟩
            have hwt : w.heap.size + 4 < lo3 ∧ lo3 ≤ mm ∧ mm ≤ tb := by omega
            rw [← htb] at T5 G5 hgl hs5
            rw [← hlo3] at O5
            have HGL := Lib.hid hgl
            have z4 := Z4.cell
            have f4 := Z4.free
            go_upto_region 12 with fail
            rw [← htb]
            have HWT := Lib.hid hwt
            have HS5 := Lib.hid hs5
            clear htb hlo3 hb1 O4 G4 Q4 N4 Z4 P4 t4 z4 f4 hgl hm1 hm2 hw34 hz3 hwt hs5 e1 e2 e2'
            generalize w4.alloc (.cells #[.slice Ay ys.length cy, .slice Ag gs.length cg] 28) = W5 at *
            have q5 := Q5.cell
            go_wp2_with fail
            refine (HCL.out _ t5).mono ?_
            rintro e w6 ⟨⟨vb, rfl, r6⟩, b6⟩
            obtain ⟨Dn, dn, rfl⟩ := bytesV r6
            have N6 := N5.next b6
            have Q6 := Q5.next b6
            have P6 := P5.next b6
            have Z6 := Z5.next b6
            have T6 := T5.next b6
            have t6 := Ext.trans t5 b6
            have O6 := O5.next (fun b hb => by have := hb.2; have := HWT.out; have := HS5.out; omega) b6
            have G6 := G5.next (fun b hb => by have := hb.2; have := HWT.out; have := HS5.out; omega) b6
            have hs6 := b6.size
            have HS6 := Lib.hid hs6
            have q6 := Q6.cell
            have qf := Q6.free
            clear q5 N5 Q5 P5 Z5 T5 t5 O5 G5 b6 hs6
            go_upto_region 13 with fail
            have hw8 := HWT.out
            have hs8 := HS5.out
            have N7 := mbox_else N6 (show w.heap.size + 2 ≠ w.heap.size + 3 by omega) 3 (.slice Dn bs.length dn)
            have P7 := mbox_else P6 (show w.heap.size + 1 ≠ w.heap.size + 3 by omega) 3 (.slice Dn bs.length dn)
            have Q7 : BoxOf _ (w.heap.size + 3) #[.int .u8 (ki.toNat : Int), .int .i64 a, .int .i64 y, .slice Dn bs.length dn] 58 := mbox_self Q6 3 (.slice Dn bs.length dn)
            have Z7 := mbox_else Z6 (show w.heap.size + 4 ≠ w.heap.size + 3 by omega) 3 (.slice Dn bs.length dn)
            have T7 := mbox_else T6 (show tb ≠ w.heap.size + 3 by omega) 3 (.slice Dn bs.length dn)
            have O7 := OwnE.setElse (k := w.heap.size + 3) O6 (fun h => by have := h.1; omega) 3 (.slice Dn bs.length dn)
            have G7 := OwnE.setElse (k := w.heap.size + 3) G6 (fun h => by have := h.1; omega) 3 (.slice Dn bs.length dn)
            have t7 := Below.setCell (p := ⟨w.heap.size + 3, 3, none⟩) t6 (show w.heap.size ≤ w.heap.size + 3 by omega) (.slice Dn bs.length dn)
            have r7 := (r6.setElse (k := w.heap.size + 3) (fun b hb => by have := hb.1; omega) 3 (.slice Dn bs.length dn)).mono (S' := fun b => Iv W5.heap.size w6.heap.size b ∧ Live (w6.setCell ⟨w.heap.size + 3, 3, none⟩ (.slice Dn bs.length dn)) b) (fun b hb => ⟨⟨hb.1, hb.2.1⟩, hb.2.2.set _ _⟩)
            have hs7 : (w6.setCell ⟨w.heap.size + 3, 3, none⟩ (.slice Dn bs.length dn)).heap.size = w6.heap.size := msize ..
            clear q6 qf N6 Q6 P6 Z6 T6 t6 O6 G6 r6 hw8 hs8
            generalize w6.setCell ⟨w.heap.size + 3, 3, none⟩ (.slice Dn bs.length dn) = W7 at *
            have bR := Ext.alloc (Below.refl W7.heap.size W7) (.cells #[.int .i64 number, .int .u8 (ki.toNat : Int), .int .i64 a, .int .i64 y, .slice Dn bs.length dn, .slice none 0 0] 64)
            have R8 := BoxOf.new W7 #[.int .i64 number, .int .u8 (ki.toNat : Int), .int .i64 a, .int .i64 y, .slice Dn bs.length dn, .slice none 0 0] 64
            have hmz : mm ≤ W7.heap.size ∧ tb ≤ W7.heap.size := by have := HWT.out; have := HS5.out; have := HS6.out; omega
            have Q8 := Q7.next bR
            have P8 := P7.next bR
            have Z8 := Z7.next bR
            have T8 := T7.next bR
            have O8 := O7.next (fun b hb => by have := hb.2; omega) bR
            have G8 := G7.next (fun b hb => by have := hb.2; omega) bR
            have t8 := Ext.trans t7 bR
            have r8 : RdIn _ (fun b => Iv W5.heap.size w6.heap.size b ∧ Live _ b) (.sl .byte) bs [.slice Dn bs.length dn] := (r7.below bR).mono (fun b hb => ⟨hb.1, hb.2.below bR⟩)
            have n7 := N7.cell
            have q7 := Q7.cell
            obtain ⟨lo2, hlo2⟩ : ∃ z : Nat, z = W7.heap.size := ⟨_, rfl⟩
            obtain ⟨lo5, hlo5⟩ : ∃ z : Nat, z = W5.heap.size := ⟨_, rfl⟩
            have hLO : tb < lo5 ∧ lo5 ≤ lo2 := by have := HS5.out; have := HS6.out; omega
            rw [← hs7, ← hlo2, ← hlo5] at r8
            rw [← hlo2] at R8
            clear hs7
            go_upto_region 14 with fail
            rw [← hlo2]
            have HLO := Lib.hid hLO
            have HAY : Hid (IsInt a ∧ IsInt y) := by
              obtain ⟨_, _, _, h1, h2, _⟩ := askCode_0 HC0.out
              show _ ∧ _
              unfold IsInt
              omega
            clear hlo2 hlo5 hLO bR hmz n7 q7 N7 Q7 P7 Z7 T7 O7 G7 t7 r7
            generalize W7.alloc (.cells #[.int .i64 number, .int .u8 (ki.toNat : Int), .int .i64 a, .int .i64 y, .slice Dn bs.length dn, .slice none 0 0] 64) = W8 at *
            have q8 := Q8.cell
            rcases Bool.eq_false_or_eq_true ((ki.toNat : Int) == 4) with e4 | e4
            · have hk4 : ki = 4 := by
                have h1 : (ki.toNat : Int) = 4 := by simpa using e4
                exact UInt8.toNat_inj.1 (by show ki.toNat = 4; omega)
              have HMS : Hid (newGo number ki a y bs ys = (number, (ki, a, y, bs, ()), lastOf ys, ())) := by
                have h1 : mkOf ki ys = lastOf ys := if_pos hk4
                exact congrArg (fun z : List Int => (show GoTy.T from (number, (ki, a, y, bs, ()), z, ()))) h1
              have HMI : Hid ((∀ x ∈ lastOf ys, IsInt x) ∧ (lastOf ys).length * 8 ≤ 140737488355328) := by
                refine ⟨fun x hx => ?_, ?_⟩
                · unfold lastOf at hx
                  rw [List.mem_map] at hx
                  obtain ⟨l, hl, rfl⟩ := hx
                  obtain ⟨i, hi, rfl⟩ := List.getElem_of_mem hl
                  have h1 := HOK.out.vals i hi
                  have h2 := h1.1
                  have h3 := h1.2.1
                  unfold IsInt
                  omega
                · rw [lastOf_len]
                  have := hyz.out
                  omega
              have hd4 : decide ((ki.toNat : Int) = 4) = true := by rw [decide_eq_true_iff]; simpa using e4
              clear hk4
              have p8 := P8.cell
              have b80 : Below lo2 W8 W8 := Below.refl _ _
              have own0 : W8.ownsRow (lo2 + 1) 3 1 (.slice none 0 0) 0 (mkV ys 0) := ⟨rfl, .inl ⟨rfl, rfl⟩⟩
              have HW8 : Hid (lo2 + 1 ≤ W8.heap.size) := R8.lt
              go_wp2
              clear q8 p8 e4 hd4
              go_loopw [59] (fun i wr => ∃ (j : Nat) (vm : Value), j ≤ ys.length ∧ i = .int .i64 j ∧ Below w.heap.size w wr ∧ Below lo2 W8 wr ∧ BoxOf wr lo2 #[.int .i64 number, .int .u8 (ki.toNat : Int), .int .i64 a, .int .i64 y, .slice Dn bs.length dn, vm] 64 ∧ wr.ownsRow (lo2 + 1) 3 1 vm j (mkV ys j) ∧ Hid (lo2 + 1 ≤ wr.heap.size)) (fun i _ => ys.length - (intOf i).toNat)
              case atStart => exact ⟨0, .slice none 0 0, by omega, rfl, t8, b80, R8, own0, HW8⟩
              case round =>
                obtain ⟨j, vm, hj, rfl, t9, k9, R9, M9, HN9⟩ := hrel
                clear t8 b80 R8 own0
                by_cases hlt : j < ys.length
                · obtain ⟨b, off, A2, c2, rfl, q2, r2⟩ := may_at (HY.out.below t9) hlt
                  have HSTK := Lib.hid (mkV_step hlt)
                  have hzl : (ys[j]).length ≤ 512 := (HOK.out.vals j hlt).2.1
                  generalize ys[j] = zs at *
                  have HWJ := next_wrap HYM.out hlt
                  have HLJ := Lib.hid hlt
                  have hwz : wrap64 ((zs.length : Int) - 1) = (zs.length : Int) - 1 := IntWalk.wrap64_in _ (by omega)
                  have bb := Ext.alloc (Below.refl wr.heap.size wr) (.cells #[.int .i64 ((zs.length : Int) - 1)] 3)
                  have rd := rd_row wr #[.int .i64 ((zs.length : Int) - 1)] 3
                  have M10 := own_next M9 bb
                  have R10 := R9.next bb
                  have t10 := Ext.trans t9 bb
                  have k10 := k9.trans (bb.mono (show lo2 ≤ wr.heap.size by have := HN9.out; omega))
                  have HS10 : Hid (lo2 + 1 ≤ (wr.alloc (.cells #[.int .i64 ((zs.length : Int) - 1)] 3)).heap.size) := Nat.le_trans HN9.out bb.size
                  have y9 := R9.cell
                  have HBY : Hid (j + 1 ≤ maxLen ∧ (j + 1) * 8 ≤ 140737488355328) := by
                    have h1 := hyz.out
                    have h2 := HLJ.out
                    show _ ∧ _
                    unfold maxLen
                    omega
                  obtain ⟨Am, cm, rfl⟩ := own_form M9
                  clear bb M9 R9 t9 k9 r2 hzl hj hlt
                  go_wp2_with (at_builtin; refine wpList_append_rd _ rfl (.tmp 64) (.tmp 68) 62 rfl (lo2 + 1) 3 ii _ 1 8 Try.underlying62 hii hi0 hi1 hi2 rfl (by decide) _ j (mkV ys j) rfl M10 (some ⟨wr.heap.size, 0, none⟩) 1 _ [.int .i64 ((zs.length : Int) - 1)] rfl (by simp) rd (by intro u hu; simp at hu; subst hu; rfl) HBY.out.1 HBY.out.2 HS10.out ?_; intro v7 w7 M7 g7 k7; rw [← HSTK.out] at M7; obtain ⟨A7, c7, rfl⟩ := own_form M7; have hw9 := HWT.out; have hlo := HLO.out; have R7 := R10.grown g7 (fun e => by have := own_block M10 e; omega); have t7 := Below.grown t10 g7 t10.size (fun r e => by have := own_block M10 e; omega); have kk7 := Below.grown k10 g7 (by have := HS10.out; omega) (fun r e => by have := own_block M10 e; omega); have HN7 := Lib.hid (Nat.le_trans HS10.out g7.size); have y7 := R7.cell; have f7 := R7.free; clear y9 R10 t10 k10 M10 rd g7 k7 hw9 hlo)
                  have hw9 := HWT.out
                  have hlo := HLO.out
                  have R8 : BoxOf _ lo2 #[.int .i64 number, .int .u8 (ki.toNat : Int), .int .i64 a, .int .i64 y, .slice Dn bs.length dn, (.slice A7 (j + 1) c7)] 64 := mbox_self R7 5 (.slice A7 (j + 1) c7)
                  have M8 := own_setLo M7 5 (.slice A7 (j + 1) c7)
                  have t8 := Below.setCell (p := ⟨lo2, 5, none⟩) t7 (show w.heap.size ≤ lo2 by omega) (.slice A7 (j + 1) c7)
                  have k8 := Below.setCell (p := ⟨lo2, 5, none⟩) kk7 (Nat.le_refl _) (.slice A7 (j + 1) c7)
                  clear hw9 hlo
                  go_roundw
                  case rel => exact ⟨j + 1, _, HLJ.out, by first | exact round_same HWJ | go_num, t8, k8, R8, M8, (show Hid (lo2 + 1 ≤ _) from by show lo2 + 1 ≤ _; rw [msize]; exact HN7.out)⟩
                  case measure => first | exact round_less HWJ HLJ.out | (have h := HLJ.out; simp [intOf]; omega)
                · have hje : j = ys.length := by omega
                  have hw9 := HWT.out
                  have hlo := HLO.out
                  have T9 := T8.below k9 (show tb < lo2 by omega)
                  have Z9 := Z8.below k9 (show w.heap.size + 4 < lo2 by omega)
                  have O9 := OwnE.frame O8 (fun b hb => k9.block b (by have := hb.2; omega))
                  have G9 := OwnE.frame G8 (fun b hb => k9.block b (by have := hb.2; omega))
                  have r9 : RdIn wr (fun b => Iv lo5 lo2 b ∧ Live wr b) (.sl .byte) bs [.slice Dn bs.length dn] := (r8.frame (fun b hb => k9.block b hb.1.2)).mono fun b hb => ⟨hb.1, by
                    obtain ⟨cs, t, h1⟩ := hb.2
                    exact ⟨cs, t, by rw [k9.block b hb.1.2]; exact h1⟩⟩
                  have MK : MarksO wr (Iv (lo2 + 1) wr.heap.size) 3 vm (lastOf ys) := MarksO.of_own (by rw [lastOf_len, ← mkV_all]; rw [hje] at M9; exact M9)
                  obtain ⟨Am, cm, rfl⟩ := own_form M9
                  have HJE := Lib.hid hje
                  clear hw9 hlo M9 T8 Z8 O8 G8 r8 hje k9
                  go_upto_region 20 with fail
                  clear hlt hj
                  have hF1 := HWT.out
                  have hF2 := HLO.out
                  have bA := Ext.alloc (Below.refl wr.heap.size wr) (.cells #[.int .i64 number, .int .u8 (ki.toNat : Int), .int .i64 a, .int .i64 y, .slice Dn bs.length dn, (.slice Am j cm)] 64)
                  have TA := T9.next bA
                  have ZA := Z9.next bA
                  have OA := O9.next (fun b hb => by have := hb.2; have := R9.lt; omega) bA
                  have GA := G9.next (fun b hb => by have := hb.2; have := R9.lt; omega) bA
                  have tA := Ext.trans t9 bA
                  have hR2 := R9.lt
                  have hA2 := bA.size
                  have EA : (goE 3).E (wr.alloc (.cells #[.int .i64 number, .int .u8 (ki.toNat : Int), .int .i64 a, .int .i64 y, .slice Dn bs.length dn, (.slice Am j cm)] 64)) (Iv lo5 (wr.alloc (.cells #[.int .i64 number, .int .u8 (ki.toNat : Int), .int .i64 a, .int .i64 y, .slice Dn bs.length dn, (.slice Am j cm)] 64)).heap.size) (newGo number ki a y bs ys) #[.int .i64 number, .int .u8 (ki.toNat : Int), .int .i64 a, .int .i64 y, .slice Dn bs.length dn, (.slice Am j cm)].toList := by
                    rw [HMS.out]
                    refine ⟨number, ki, a, y, bs, (lastOf ys), _, _, rfl, rfl, ⟨HN.out, HAY.out.1, HAY.out.2⟩, HMI.out.1, HMI.out.2, (r9.below bA).mono (fun b hb => ⟨⟨⟨hb.1.1, by have := hb.1.2; omega⟩, hb.2.below bA⟩, MK.ne (by have := hb.1.2; omega)⟩), (MK.frame (fun b hb => bA.block b hb.2)).mono (fun b hb => ⟨by have := hb.1; omega, Nat.lt_of_lt_of_le hb.2 hA2⟩)⟩
                  have rdA := rd_row wr #[.int .i64 number, .int .u8 (ki.toNat : Int), .int .i64 a, .int .i64 y, .slice Dn bs.length dn, (.slice Am j cm)] 64
                  have HBY : Hid (gs.length + 1 ≤ maxLen ∧ (gs.length + 1) * 80 ≤ 140737488355328) := by
                    have h1 := HOK.out.few
                    show _ ∧ _
                    unfold maxLen
                    omega
                  have HTL : Hid (∀ (A : Option Addr) (c : Nat), Value.slice A (gs ++ [newGo number ki a y bs ys]).length c = Value.slice A (gs.length + 1) c) := fun A c => by
                    rw [List.length_append]
                    rfl
                  have yT := T9.cell
                  have yR := R9.cell
                  have hwtb : w.heap.size + 4 < tb := by omega
                  have HEND := Lib.hid (And.intro hF1 (And.intro hF2 (And.intro hR2 hA2)))
                  clear hF1 hF2 hA2 bA T9 Z9 O9 G9 t9 r9 R9
                  go_wp2_with (at_builtin; refine wpList_pushE rfl (.tmp 73) (.tmp 75) 26 rfl mm 64 ig _ 80 Try.underlying26 hig hg0 hg1 hg2 rfl (by decide) _ gs (Iv mm tb) (Iv lo5 (wr.alloc (.cells #[.int .i64 number, .int .u8 (ki.toNat : Int), .int .i64 a, .int .i64 y, .slice Dn bs.length dn, (.slice Am j cm)] 64)).heap.size) rfl GA (fun b hb => by have := hb.2; have := HEND.out; omega) (some ⟨wr.heap.size, 0, none⟩) 1 _ rfl rdA (newGo number ki a y bs ys) EA (fun b hb => ⟨fun hf => by have h1 := hf.2; have h2 := hb.1; have := HEND.out; omega, hb.2⟩) HBY.out.1 HBY.out.2 (by have := HEND.out; omega) ?_; intro v7 w7 O7 g7 k7; obtain ⟨A10, c10, e10⟩ := O7.slice; have e11 := e10.trans (HTL.out A10 c10); subst e11; have hE := HEND.out; have TB := TA.grown g7 (fun e => absurd (HGL.out _ e) (Nat.lt_irrefl _)); have ZB := ZA.grown g7 (fun e => by have := k7 _ e; omega); have tB := Below.grown tA g7 tA.size (fun r e => by have := k7 r e; omega); have OB := OwnE.frame OA (fun b hb => g7.block b (by have := hb.2; omega) (fun e => by have h1 := k7 _ e.symm; have := hb.2; omega)); have HGB := Lib.hid O7; have HNE := Lib.hid (O7.box_ne TB (by decide)); have yB := TB.cell; have fB := TB.free; have zB := ZB.cell; have zf := ZB.free; clear yT yR TA ZA tA OA GA EA rdA g7 k7 O7 e10 hE)
                  have hE := HEND.out
                  have B5 : BoxOf _ (w.heap.size + 4) #[.slice Ay ys.length cy, .slice A10 (gs.length + 1) c10] 28 := mbox_self (mbox_self (mbox_else ZB (show w.heap.size + 4 ≠ tb by omega) 1 (.slice A10 (gs.length + 1) c10)) 0 (.slice Ay ys.length cy)) 1 (.slice A10 (gs.length + 1) c10)
                  have T5 := Below.setCell (p := ⟨w.heap.size + 4, 1, none⟩) (Below.setCell (p := ⟨w.heap.size + 4, 0, none⟩) (Below.setCell (p := ⟨tb, 1, none⟩) tB (show w.heap.size ≤ tb by omega) (.slice A10 (gs.length + 1) c10)) (show w.heap.size ≤ w.heap.size + 4 by omega) (.slice Ay ys.length cy)) (show w.heap.size ≤ w.heap.size + 4 by omega) (.slice A10 (gs.length + 1) c10)
                  have OF := OwnE.setElse (k := w.heap.size + 4) (OwnE.setElse (k := w.heap.size + 4) (OwnE.setElse (k := tb) OB (fun h => by have := h.2; omega) 1 (.slice A10 (gs.length + 1) c10)) (fun h => by have := h.1; omega) 0 (.slice Ay ys.length cy)) (fun h => by have := h.1; omega) 1 (.slice A10 (gs.length + 1) c10)
                  have hn4 : ¬ (fun b => Iv mm tb b ∨ Iv lo5 (wr.alloc (.cells #[.int .i64 number, .int .u8 (ki.toNat : Int), .int .i64 a, .int .i64 y, .slice Dn bs.length dn, (.slice Am j cm)] 64)).heap.size b ∨ (Value.slice A10 (gs.length + 1) c10).ownBlock = some b) (w.heap.size + 4) := fun h => by
                    rcases h with h | h | h
                    · have := h.1; omega
                    · have := h.1; omega
                    · have := HGB.out.base_le _ h; omega
                  have GF := OwnE.setElse (k := w.heap.size + 4) (OwnE.setElse (k := w.heap.size + 4) (OwnE.setElse (k := tb) HGB.out (fun h => by
                    rcases h with h | h | h
                    · have := h.2; omega
                    · have := h.1; omega
                    · exact HNE.out h) 1 (.slice A10 (gs.length + 1) c10)) hn4 0 (.slice Ay ys.length cy)) hn4 1 (.slice A10 (gs.length + 1) c10)
                  have RY := (OF.may_rd hyz.out).mono (S' := NewB w.heap.size (((w7.setCell ⟨tb, 1, none⟩ (.slice A10 (gs.length + 1) c10)).setCell ⟨w.heap.size + 4, 0, none⟩ (.slice Ay ys.length cy)).setCell ⟨w.heap.size + 4, 1, none⟩ (.slice A10 (gs.length + 1) c10))) (fun b hb => ⟨by have := hb.1.1; omega, hb.2.lt, hb.2⟩)
                  have RG := (GF.go_rd (by rw [List.length_append]; exact HBY.out.2)).mono (S' := NewB w.heap.size (((w7.setCell ⟨tb, 1, none⟩ (.slice A10 (gs.length + 1) c10)).setCell ⟨w.heap.size + 4, 0, none⟩ (.slice Ay ys.length cy)).setCell ⟨w.heap.size + 4, 1, none⟩ (.slice A10 (gs.length + 1) c10))) (fun b hb => ⟨by
                    rcases hb.1 with h | h | h
                    · have := h.1; omega
                    · have := h.1; omega
                    · have := HGB.out.base_le _ h; omega, hb.2.lt, hb.2⟩)
                  exact bodyPost_ret (v := .tuple #[.agg #[.slice Ay ys.length cy, .slice A10 (gs.length + 1) c10], .int .i64 0]) (Eq.trans (results_row2 (P := Try.prog) (fn := Try.f24) (p := 8) (u := 9) (ty := 28) rfl _ _ (w.heap.size + 4) 28 #[.slice Ay ys.length cy, .slice A10 (gs.length + 1) c10] (0, 0) _ rfl B5 Try.underlying28 rfl (by kernel_rfl)) rfl) rfl ⟨⟨0, ys, gs ++ [newGo number ki a y bs ys], Ay, cy, A10, c10, by rw [HTL.out A10 c10], .inr (.inr (.inr (.inr ⟨HOK.out, HC0.out, HNO.out, HL.out, rfl, rfl, rfl⟩))), RY, by rw [HTL.out A10 c10]; exact RG⟩, T5⟩
            · have hk4 : ¬ ki = 4 := fun h => by
                subst h
                simp at e4
              have HMS : Hid (newGo number ki a y bs ys = (number, (ki, a, y, bs, ()), [], ())) := by
                have h1 : mkOf ki ys = [] := if_neg hk4
                exact congrArg (fun z : List Int => (show GoTy.T from (number, (ki, a, y, bs, ()), z, ()))) h1
              have HMI : Hid ((∀ x ∈ ([] : List Int), IsInt x) ∧ ([] : List Int).length * 8 ≤ 140737488355328) := ⟨by simp, by simp⟩
              have hd4 : decide ((ki.toNat : Int) = 4) = false := by rw [decide_eq_false_iff_not]; simpa using e4
              have MK : MarksO W8 (Iv (lo2 + 1) W8.heap.size) 3 (.slice none 0 0) [] := .inl ⟨rfl, none, 0, rfl, by unfold maxLen; omega⟩
              clear hk4
              go_upto_region 20 with fail
              clear q8 e4 hd4
              have hF1 := HWT.out
              have hF2 := HLO.out
              have bA := Ext.alloc (Below.refl W8.heap.size W8) (.cells #[.int .i64 number, .int .u8 (ki.toNat : Int), .int .i64 a, .int .i64 y, .slice Dn bs.length dn, (.slice none 0 0)] 64)
              have TA := T8.next bA
              have ZA := Z8.next bA
              have OA := O8.next (fun b hb => by have := hb.2; have := R8.lt; omega) bA
              have GA := G8.next (fun b hb => by have := hb.2; have := R8.lt; omega) bA
              have tA := Ext.trans t8 bA
              have hR2 := R8.lt
              have hA2 := bA.size
              have EA : (goE 3).E (W8.alloc (.cells #[.int .i64 number, .int .u8 (ki.toNat : Int), .int .i64 a, .int .i64 y, .slice Dn bs.length dn, (.slice none 0 0)] 64)) (Iv lo5 (W8.alloc (.cells #[.int .i64 number, .int .u8 (ki.toNat : Int), .int .i64 a, .int .i64 y, .slice Dn bs.length dn, (.slice none 0 0)] 64)).heap.size) (newGo number ki a y bs ys) #[.int .i64 number, .int .u8 (ki.toNat : Int), .int .i64 a, .int .i64 y, .slice Dn bs.length dn, (.slice none 0 0)].toList := by
                rw [HMS.out]
                refine ⟨number, ki, a, y, bs, [], _, _, rfl, rfl, ⟨HN.out, HAY.out.1, HAY.out.2⟩, HMI.out.1, HMI.out.2, (r8.below bA).mono (fun b hb => ⟨⟨⟨hb.1.1, by have := hb.1.2; omega⟩, hb.2.below bA⟩, MK.ne (by have := hb.1.2; omega)⟩), (MK.frame (fun b hb => bA.block b hb.2)).mono (fun b hb => ⟨by have := hb.1; omega, Nat.lt_of_lt_of_le hb.2 hA2⟩)⟩
              have rdA := rd_row W8 #[.int .i64 number, .int .u8 (ki.toNat : Int), .int .i64 a, .int .i64 y, .slice Dn bs.length dn, (.slice none 0 0)] 64
              have HBY : Hid (gs.length + 1 ≤ maxLen ∧ (gs.length + 1) * 80 ≤ 140737488355328) := by
                have h1 := HOK.out.few
                show _ ∧ _
                unfold maxLen
                omega
              have HTL : Hid (∀ (A : Option Addr) (c : Nat), Value.slice A (gs ++ [newGo number ki a y bs ys]).length c = Value.slice A (gs.length + 1) c) := fun A c => by
                rw [List.length_append]
                rfl
              have yT := T8.cell
              have yR := R8.cell
              have hwtb : w.heap.size + 4 < tb := by omega
              have HEND := Lib.hid (And.intro hF1 (And.intro hF2 (And.intro hR2 hA2)))
              clear hF1 hF2 hA2 bA T8 Z8 O8 G8 t8 r8 R8
              go_wp2_with (at_builtin; refine wpList_pushE rfl (.tmp 73) (.tmp 75) 26 rfl mm 64 ig _ 80 Try.underlying26 hig hg0 hg1 hg2 rfl (by decide) _ gs (Iv mm tb) (Iv lo5 (W8.alloc (.cells #[.int .i64 number, .int .u8 (ki.toNat : Int), .int .i64 a, .int .i64 y, .slice Dn bs.length dn, (.slice none 0 0)] 64)).heap.size) rfl GA (fun b hb => by have := hb.2; have := HEND.out; omega) (some ⟨W8.heap.size, 0, none⟩) 1 _ rfl rdA (newGo number ki a y bs ys) EA (fun b hb => ⟨fun hf => by have h1 := hf.2; have h2 := hb.1; have := HEND.out; omega, hb.2⟩) HBY.out.1 HBY.out.2 (by have := HEND.out; omega) ?_; intro v7 w7 O7 g7 k7; obtain ⟨A10, c10, e10⟩ := O7.slice; have e11 := e10.trans (HTL.out A10 c10); subst e11; have hE := HEND.out; have TB := TA.grown g7 (fun e => absurd (HGL.out _ e) (Nat.lt_irrefl _)); have ZB := ZA.grown g7 (fun e => by have := k7 _ e; omega); have tB := Below.grown tA g7 tA.size (fun r e => by have := k7 r e; omega); have OB := OwnE.frame OA (fun b hb => g7.block b (by have := hb.2; omega) (fun e => by have h1 := k7 _ e.symm; have := hb.2; omega)); have HGB := Lib.hid O7; have HNE := Lib.hid (O7.box_ne TB (by decide)); have yB := TB.cell; have fB := TB.free; have zB := ZB.cell; have zf := ZB.free; clear yT yR TA ZA tA OA GA EA rdA g7 k7 O7 e10 hE)
              have hE := HEND.out
              have B5 : BoxOf _ (w.heap.size + 4) #[.slice Ay ys.length cy, .slice A10 (gs.length + 1) c10] 28 := mbox_self (mbox_self (mbox_else ZB (show w.heap.size + 4 ≠ tb by omega) 1 (.slice A10 (gs.length + 1) c10)) 0 (.slice Ay ys.length cy)) 1 (.slice A10 (gs.length + 1) c10)
              have T5 := Below.setCell (p := ⟨w.heap.size + 4, 1, none⟩) (Below.setCell (p := ⟨w.heap.size + 4, 0, none⟩) (Below.setCell (p := ⟨tb, 1, none⟩) tB (show w.heap.size ≤ tb by omega) (.slice A10 (gs.length + 1) c10)) (show w.heap.size ≤ w.heap.size + 4 by omega) (.slice Ay ys.length cy)) (show w.heap.size ≤ w.heap.size + 4 by omega) (.slice A10 (gs.length + 1) c10)
              have OF := OwnE.setElse (k := w.heap.size + 4) (OwnE.setElse (k := w.heap.size + 4) (OwnE.setElse (k := tb) OB (fun h => by have := h.2; omega) 1 (.slice A10 (gs.length + 1) c10)) (fun h => by have := h.1; omega) 0 (.slice Ay ys.length cy)) (fun h => by have := h.1; omega) 1 (.slice A10 (gs.length + 1) c10)
              have hn4 : ¬ (fun b => Iv mm tb b ∨ Iv lo5 (W8.alloc (.cells #[.int .i64 number, .int .u8 (ki.toNat : Int), .int .i64 a, .int .i64 y, .slice Dn bs.length dn, (.slice none 0 0)] 64)).heap.size b ∨ (Value.slice A10 (gs.length + 1) c10).ownBlock = some b) (w.heap.size + 4) := fun h => by
                rcases h with h | h | h
                · have := h.1; omega
                · have := h.1; omega
                · have := HGB.out.base_le _ h; omega
              have GF := OwnE.setElse (k := w.heap.size + 4) (OwnE.setElse (k := w.heap.size + 4) (OwnE.setElse (k := tb) HGB.out (fun h => by
                rcases h with h | h | h
                · have := h.2; omega
                · have := h.1; omega
                · exact HNE.out h) 1 (.slice A10 (gs.length + 1) c10)) hn4 0 (.slice Ay ys.length cy)) hn4 1 (.slice A10 (gs.length + 1) c10)
              have RY := (OF.may_rd hyz.out).mono (S' := NewB w.heap.size (((w7.setCell ⟨tb, 1, none⟩ (.slice A10 (gs.length + 1) c10)).setCell ⟨w.heap.size + 4, 0, none⟩ (.slice Ay ys.length cy)).setCell ⟨w.heap.size + 4, 1, none⟩ (.slice A10 (gs.length + 1) c10))) (fun b hb => ⟨by have := hb.1.1; omega, hb.2.lt, hb.2⟩)
              have RG := (GF.go_rd (by rw [List.length_append]; exact HBY.out.2)).mono (S' := NewB w.heap.size (((w7.setCell ⟨tb, 1, none⟩ (.slice A10 (gs.length + 1) c10)).setCell ⟨w.heap.size + 4, 0, none⟩ (.slice Ay ys.length cy)).setCell ⟨w.heap.size + 4, 1, none⟩ (.slice A10 (gs.length + 1) c10))) (fun b hb => ⟨by
                rcases hb.1 with h | h | h
                · have := h.1; omega
                · have := h.1; omega
                · have := HGB.out.base_le _ h; omega, hb.2.lt, hb.2⟩)
              exact bodyPost_ret (v := .tuple #[.agg #[.slice Ay ys.length cy, .slice A10 (gs.length + 1) c10], .int .i64 0]) (Eq.trans (results_row2 (P := Try.prog) (fn := Try.f24) (p := 8) (u := 9) (ty := 28) rfl _ _ (w.heap.size + 4) 28 #[.slice Ay ys.length cy, .slice A10 (gs.length + 1) c10] (0, 0) _ rfl B5 Try.underlying28 rfl (by kernel_rfl)) rfl) rfl ⟨⟨0, ys, gs ++ [newGo number ki a y bs ys], Ay, cy, A10, c10, by rw [HTL.out A10 c10], .inr (.inr (.inr (.inr ⟨HOK.out, HC0.out, HNO.out, HL.out, rfl, rfl, rfl⟩))), RY, by rw [HTL.out A10 c10]; exact RG⟩, T5⟩
    · have HC0 := Lib.hid hc
      have e1 : (askCode ⟨id, m, c, r, l, h⟩ (ki.toNat : Int) a y bs.length != 0) = true := by simpa using hc
      generalize hE : askCode ⟨id, m, c, r, l, h⟩ (ki.toNat : Int) a y bs.length = E at *
      have HE := Lib.hid hE
      clear hE hc
      go_wp2
      have f9 := (Z2).free
      have B5 : BoxOf _ (w.heap.size + 4) #[.slice none 0 0, .slice none 0 0] 28 := mbox_self (mbox_self Z2 0 (.slice none 0 0)) 1 (.slice none 0 0)
      have T5 := Below.setCell (p := ⟨w.heap.size + 4, 1, none⟩) (Below.setCell (p := ⟨w.heap.size + 4, 0, none⟩) t2 (show w.heap.size ≤ w.heap.size + 4 by omega) (.slice none 0 0)) (show w.heap.size ≤ w.heap.size + 4 by omega) (.slice none 0 0)
      exact bodyPost_ret (v := .tuple #[.agg #[.slice none 0 0, .slice none 0 0], .int .i64 (E)]) (Eq.trans (results_row2 (P := Try.prog) (fn := Try.f24) (p := 8) (u := 9) (ty := 28) rfl _ _ (w.heap.size + 4) 28 #[.slice none 0 0, .slice none 0 0] (0, 0) _ rfl B5 Try.underlying28 rfl (by kernel_rfl)) rfl) rfl ⟨BegIs.err (.inr (.inl ⟨HOK.out, by rw [HE.out]; exact HC0.out, HE.out.symm, rfl, rfl⟩)), T5⟩
  · have HNOK := Lib.hid hno
    clear hno
    go_wp2
    have f9 := (Z1).free
    have B5 : BoxOf _ (w.heap.size + 4) #[.slice none 0 0, .slice none 0 0] 28 := mbox_self (mbox_self Z1 0 (.slice none 0 0)) 1 (.slice none 0 0)
    have T5 := Below.setCell (p := ⟨w.heap.size + 4, 1, none⟩) (Below.setCell (p := ⟨w.heap.size + 4, 0, none⟩) t1 (show w.heap.size ≤ w.heap.size + 4 by omega) (.slice none 0 0)) (show w.heap.size ≤ w.heap.size + 4 by omega) (.slice none 0 0)
    exact bodyPost_ret (v := .tuple #[.agg #[.slice none 0 0, .slice none 0 0], .int .i64 (8)]) (Eq.trans (results_row2 (P := Try.prog) (fn := Try.f24) (p := 8) (u := 9) (ty := 28) rfl _ _ (w.heap.size + 4) 28 #[.slice none 0 0, .slice none 0 0] (0, 0) _ rfl B5 Try.underlying28 rfl (by kernel_rfl)) rfl) rfl ⟨BegIs.err (.inl ⟨HNOK.out, rfl, rfl, rfl⟩), T5⟩
end Go.Proofs.Ytclbihcggjjgaaa
/- Layer 30 (model): the statements' own plain array, and what a crash may leave of it. -/
namespace Go.Proofs.Ytclbihcggjjgaaa
open Go Go.RowKit
set_option linter.unusedSimpArgs false
set_option linter.unusedVariables false

theorem two_ok : cfgTwo.Ok := by decide
theorem nulls_vals (n : Nat) : ∀ i, ValOk (nulls n) i := fun i h => by
  have e : (nulls n)[i] = [zeros] := List.getElem_replicate _
  rw [e]
  refine ⟨by simp, by simp, fun k hk => ?_⟩
  have hk0 : k = 0 := by have : k < 1 := hk; omega
  subst hk0
  rfl
def begGo : GoTy.T := newGo 1 2 0 1 (fullL 1) (nulls 4)
theorem two_plain0 : PlainOk cfgTwo (nulls 4) [] := ⟨two_ok, by decide, by simp, nulls_vals 4, fun i h => absurd h (Nat.not_lt_zero _)⟩
set_option maxRecDepth 100000 in
theorem beg_ask : askCode cfgTwo (((2 : UInt8).toNat : Nat) : Int) 0 1 (fullL 1).length = 0 := by
  unfold askCode
  rw [if_pos two_ok, if_pos (.inl ⟨by decide, by decide, by decide, by decide, by decide⟩), if_pos (by decide)]
theorem two_plain1 : PlainOk cfgTwo (nulls 4) [begGo] := ⟨two_ok, by decide, by simp, nulls_vals 4, fun i h => by
  have h0 : i = 0 := by have : i < 1 := h; omega
  subst h0
  refine ⟨⟨?_, ?_, ?_⟩, fun _ h => absurd h (by decide)⟩
  · show (1 : Int) ≤ 1; decide
  · exact beg_ask
  · show MarksOk (((2 : UInt8).toNat : Nat) : Int) (mkOf 2 (nulls 4)) (nulls 4)
    unfold MarksOk
    rw [if_neg (by decide)]
    rfl⟩
theorem beg_rel {v : Int} {zs : List (List (List UInt8))} {hs : List GoTy.T} (h : BegRel cfgTwo (nulls 4) [] 1 2 0 1 (fullL 1) v zs hs) : v = 0 ∧ zs = nulls 4 ∧ hs = [begGo] :=
  h.one (.inr (.inr (.inr (.inr ⟨two_plain0, beg_ask, ⟨by decide, fun ⟨i, hi, _⟩ => absurd hi (Nat.not_lt_zero _)⟩, by decide, rfl, rfl, rfl⟩))))
theorem new_rel {v : Int} {zs : List (List (List UInt8))} (h : NewRel cfgTwo v zs) : v = 0 ∧ zs = nulls 4 := h.one (.inr ⟨two_ok, rfl, by rfl⟩)
set_option maxRecDepth 100000 in
theorem left_1 : LeftP (nulls 4) [begGo] 0 (fullL 1) := .inr ⟨0, by simp, by decide⟩
set_option maxRecDepth 100000 in
theorem left_0 : LeftP (nulls 4) [begGo] 0 (fullL 0) := .inl ⟨by decide, 0, by decide, by decide⟩
set_option maxRecDepth 100000 in
theorem left_2 : ¬ LeftP (nulls 4) [begGo] 0 (fullL 2) := by
  rintro (⟨h, i, hi, h1⟩ | ⟨i, hi, h1⟩)
  · have hi0 : i = 0 := by have : i < 1 := hi; omega
    subst hi0
    have h2 : eqBs (fullL 2) zeros = true := h1
    exact absurd h2 (by decide)
  · have hi0 : i = 0 := by have : i < 1 := hi; omega
    subst hi0
    have h2 : hitB 0 (fullL 2) begGo = true := h1
    exact absurd h2 (by decide)
def BegunP (base : Nat) (u : Value) (e : Ending) (w : World) : Prop :=
  ∃ (A : Option Addr) (c : Nat) (B : Option Addr) (d : Nat), e = .returned (.tuple #[.agg #[.slice A 4 c, .slice B 1 d], u]) ∧ RdIn w (NewB base w) (.sl (.sl (.sl .byte))) (nulls 4) [.slice A 4 c] ∧ RdIn w (NewB base w) (.sl GoTy) [begGo] [.slice B 1 d]
theorem begin_two (A : Option Addr) (c g : Nat) (w : World) (hy : RdIn w (fun _ => True) (.sl (.sl (.sl .byte))) (nulls 4) [.slice A 4 c]) (hd : RdIn w (fun _ => True) (.sl .byte) (fullL 1) [.slice (some ⟨g, 0, none⟩) 128 128]) :
    Calls Try.prog 24 #[cfgTwo.val, .agg #[.slice A 4 c, .slice none 0 0], .int .i64 1, .agg #[.int .u8 2, .int .i64 0, .int .i64 1, .slice (some ⟨g, 0, none⟩) 128 128]] w fun e w' => BegunP w.heap.size (.int .i64 0) e w' ∧ Below w.heap.size w w' := by
  refine Calls.mono (sbegin_any (fun _ => True) cfgTwo (nulls 4) [] A c none 0 1 (by decide) 2 0 1 (some ⟨g, 0, none⟩) 128 (fullL 1) w hy (rdin_nilg _ _) hd) ?_
  rintro e w' ⟨⟨v, zs, hs, A', c', B', d', rfl, hr, h1, h2⟩, b⟩
  obtain ⟨rfl, rfl, rfl⟩ := beg_rel hr
  exact ⟨⟨A', c', B', d', rfl, h1, h2⟩, b⟩
theorem new_two (w : World) : Calls Try.prog 29 #[cfgTwo.val] w fun e w' => (∃ A c, e = .returned (.tuple #[.agg #[.slice A 4 c, .slice none 0 0], .int .i64 0]) ∧ RdIn w' (NewB w.heap.size w') (.sl (.sl (.sl .byte))) (nulls 4) [.slice A 4 c]) ∧ Below w.heap.size w w' := by
  refine Calls.mono (snew_any cfgTwo w) ?_
  rintro e w' ⟨⟨v, zs, A', c', rfl, hr, h1⟩, b⟩
  obtain ⟨rfl, rfl⟩ := new_rel hr
  exact ⟨⟨A', c', rfl, h1⟩, b⟩
set_option maxRecDepth 100000 in
set_option maxHeartbeats 2000000 in
theorem begun_any (w : World) : Calls Try.prog 22 #[] w fun e w' => BegunP w.heap.size (.bool true) e w' ∧ Below w.heap.size w w' := by
  have Z0 := BoxOf.new w #[.slice none 0 0, .slice none 0 0] 28
  have t0 := Ext.alloc (Below.refl w.heap.size w) (.cells #[.slice none 0 0, .slice none 0 0] 28)
  go_enter Try.func22, Try.ntmps22
  go_upto_region 1 with fail
  generalize w.alloc (.cells #[.slice none 0 0, .slice none 0 0] 28) = W at *
  go_wp2_with fail
  refine (two_any _).mono ?_
  rintro e w1 ⟨rfl, b1⟩
  have Z1 := Z0.next b1
  have t1 := Ext.trans t0 b1
  clear Z0 t0 b1
  go_wp2_with fail
  refine (new_two _).mono ?_
  rintro e w2 ⟨⟨Ay, cy, rfl, ry⟩, b2⟩
  have Z2 := Z1.next b2
  have t2 := Ext.trans t1 b2
  have hl2 := t2.size
  have hz2 := Z2.lt
  have hl1 := t1.size
  have b3 := Ext.alloc (Below.refl w2.heap.size w2) (.cells #[.slice Ay 4 cy, .slice none 0 0] 28)
  have P3 := BoxOf.new w2 #[.slice Ay 4 cy, .slice none 0 0] 28
  have Z3 := Z2.next b3
  have t3 := Ext.trans t2 b3
  have HNY := Lib.hid ry
  have HL3 := Lib.hid hz2
  clear ry Z1 t1 b2 Z2 t2 hl1
  go_upto_region 2 with fail
  have HLE : Hid (w2.heap.size ≤ (w2.alloc (.cells #[.slice Ay 4 cy, .slice none 0 0] 28)).heap.size) := b3.size
  have HLE2 : Hid (w2.heap.size < (w2.alloc (.cells #[.slice Ay 4 cy, .slice none 0 0] 28)).heap.size) := P3.lt
  generalize w2.alloc (.cells #[.slice Ay 4 cy, .slice none 0 0] 28) = w3 at *
  have bb : Below w3.heap.size w3 w3.drew := Ext.drew (Below.refl _ _)
  refine wp_region_held_drew (S := fun w' => Below w2.heap.size w3 w') (by kernel_rfl) (bb.mono HLE.out) (fun hS => ?_)
  generalize w3.drew = wd at *
  refine wpAnyH_ready (rs := [0, 1]) (by kernel_rfl) (by simp) ?_
  refine AllReadyH.cons rfl (fun K hK => ?_) (AllReadyH.cons rfl (fun K hK => ?_) AllReadyH.nil)
  · rw [if_pos (by rfl)]
    go_simp
    refine (two_any _).mono ?_
    rintro e v3 ⟨rfl, k3⟩
    have bb' := Ext.trans bb k3
    refine hK.out _ _ (bb'.mono HLE.out) (fun hS' => ?_)
    clear hK K hS bb
    have hS := hS'
    have bb := bb'
    clear hS' bb'
    try simp only [Act.put, List.getElem_toArray, List.getElem_cons_zero, List.getElem_cons_succ, List.setIfInBounds_toArray, List.set_cons_zero, List.set_cons_succ]
    clear k3
    refine wpAnyH_ready (rs := [1, 2]) (by kernel_rfl) (by simp) ?_
    refine AllReadyH.cons rfl (fun K hK => ?_) (AllReadyH.cons rfl (fun K hK => ?_) AllReadyH.nil)
    · rw [if_pos (by rfl)]
      have yQ := (P3.next bb).cell
      go_simp
      refine hK.out _ _ (bb.mono HLE.out) (fun hS' => ?_)
      clear yQ hK K hS
      have hS := hS'
      clear hS'
      try simp only [Act.put, List.getElem_toArray, List.getElem_cons_zero, List.getElem_cons_succ, List.setIfInBounds_toArray, List.set_cons_zero, List.set_cons_succ]
      refine wpAnyH_ready (rs := [2]) (by kernel_rfl) (by simp) ?_
      refine AllReadyH.cons rfl (fun K hK => ?_) AllReadyH.nil
      rw [if_pos (by rfl)]
      go_simp
      refine (write_any 1 _).mono ?_
      rintro e v4 ⟨⟨g4, rfl, r4⟩, k4⟩
      have HD4 := Lib.hid (r4.mono (S' := fun _ => True) fun _ _ => trivial)
      have bb' := Ext.trans bb k4
      refine hK.out _ _ (bb'.mono HLE.out) (fun hS' => ?_)
      clear hK K hS bb
      have hS := hS'
      have bb := bb'
      clear hS' bb'
      try simp only [Act.put, List.getElem_toArray, List.getElem_cons_zero, List.getElem_cons_succ, List.setIfInBounds_toArray, List.set_cons_zero, List.set_cons_succ]
      clear k4 r4
      refine wpAnyH_ready (rs := [3]) (by kernel_rfl) (by simp) ?_
      refine AllReadyH.cons rfl (fun K hK => ?_) AllReadyH.nil
      rw [if_pos (by rfl)]
      go_simp
      refine (begin_two Ay cy g4 _ ((HNY.out.below (Ext.trans b3 bb)).mono fun _ _ => trivial) HD4.out).mono ?_
      rintro e v5 ⟨⟨A5, c5, B5, d5, rfl, ry5, rg5⟩, k5⟩
      have hv4 := bb.size
      have HR5 := Lib.hid (And.intro ry5 (And.intro rg5 (Nat.le_trans HLE2.out hv4)))
      clear ry5 rg5 hv4
      have bb' := Ext.trans bb k5
      refine hK.out _ _ (bb'.mono HLE.out) (fun hS' => ?_)
      clear hK K hS bb
      have hS := hS'
      have bb := bb'
      clear hS' bb'
      try simp only [Act.put, List.getElem_toArray, List.getElem_cons_zero, List.getElem_cons_succ, List.setIfInBounds_toArray, List.set_cons_zero, List.set_cons_succ]
      clear k5
      refine wpAnyH_take (i := 4) (oi := _) (v := ?_) rfl (by kernel_rfl) (by kernel_rfl) (by kernel_rfl) (fun _ _ _ h => h) (Or.inl ⟨by rfl, ?_⟩) hS ?_
      rotate_left
      · (intro w hSw; (try dsimp only at hSw); go_simp; (try with_reducible rfl))
      rotate_left
      simp only [Act.put, List.getElem_toArray, List.getElem_cons_zero, List.getElem_cons_succ, List.setIfInBounds_toArray, List.set_cons_zero, List.set_cons_succ]
      refine wpAnyH_take (i := 5) (oi := _) (v := ?_) rfl (by kernel_rfl) (by kernel_rfl) (by kernel_rfl) (fun _ _ _ h => h) (Or.inl ⟨by rfl, ?_⟩) hS ?_
      rotate_left
      · (intro w hSw; (try dsimp only at hSw); go_simp; (try with_reducible rfl))
      rotate_left
      simp only [Act.put, List.getElem_toArray, List.getElem_cons_zero, List.getElem_cons_succ, List.setIfInBounds_toArray, List.set_cons_zero, List.set_cons_succ]
      refine wpAnyH_take (i := 6) (oi := _) (v := ?_) rfl (by kernel_rfl) (by kernel_rfl) (by kernel_rfl) (fun _ _ _ h => h) (Or.inl ⟨by rfl, ?_⟩) hS ?_
      rotate_left
      · (intro w hSw; (try dsimp only at hSw); go_simp; (try with_reducible rfl))
      rotate_left
      simp only [Act.put, List.getElem_toArray, List.getElem_cons_zero, List.getElem_cons_succ, List.setIfInBounds_toArray, List.set_cons_zero, List.set_cons_succ]
      refine wpAnyH_ready (rs := [7]) (by kernel_rfl) (by simp) ?_
      refine AllReadyH.cons rfl (fun K hK => ?_) AllReadyH.nil
      rw [if_pos (by rfl)]
      have PV := P3.next bb
      have ZV := Z3.next bb
      have tV := Ext.trans t3 bb
      have pv := PV.cell
      have pf := PV.free
      have hlo3 := HL3.out
      go_simp
      clear pv pf
      have PW : BoxOf _ w2.heap.size #[.slice A5 4 c5, .slice B5 1 d5] 28 := mbox_self (mbox_self PV 0 (.slice A5 4 c5)) 1 (.slice B5 1 d5)
      have ZW := mbox_else (mbox_else ZV (show w.heap.size ≠ w2.heap.size by omega) 0 (.slice A5 4 c5)) (show w.heap.size ≠ w2.heap.size by omega) 1 (.slice B5 1 d5)
      have tW := Below.setCell (p := ⟨w2.heap.size, 1, none⟩) (Below.setCell (p := ⟨w2.heap.size, 0, none⟩) tV (show w.heap.size ≤ w2.heap.size by omega) (.slice A5 4 c5)) (show w.heap.size ≤ w2.heap.size by omega) (.slice B5 1 d5)
      have sW := Below.setCell (p := ⟨w2.heap.size, 1, none⟩) (Below.setCell (p := ⟨w2.heap.size, 0, none⟩) (bb.mono HLE.out) (Nat.le_refl _) (.slice A5 4 c5)) (Nat.le_refl _) (.slice B5 1 d5)
      have rW := ((HR5.out.1.setElse (k := w2.heap.size) (fun b hb => by have := hb.1; have := HR5.out.2.2; omega) 0 (.slice A5 4 c5)).setElse (k := w2.heap.size) (fun b hb => by have := hb.1; have := HR5.out.2.2; omega) 1 (.slice B5 1 d5)).mono (S' := NewB (w.heap.size + 1) ((v5.setCell ⟨w2.heap.size, 0, none⟩ (.slice A5 4 c5)).setCell ⟨w2.heap.size, 1, none⟩ (.slice B5 1 d5))) (fun b hb => ⟨by have := hb.1; have := HR5.out.2.2; omega, by simp only [msize]; exact hb.2.1, (hb.2.2.set _ _).set _ _⟩)
      have uW := ((HR5.out.2.1.setElse (k := w2.heap.size) (fun b hb => by have := hb.1; have := HR5.out.2.2; omega) 0 (.slice A5 4 c5)).setElse (k := w2.heap.size) (fun b hb => by have := hb.1; have := HR5.out.2.2; omega) 1 (.slice B5 1 d5)).mono (S' := NewB (w.heap.size + 1) ((v5.setCell ⟨w2.heap.size, 0, none⟩ (.slice A5 4 c5)).setCell ⟨w2.heap.size, 1, none⟩ (.slice B5 1 d5))) (fun b hb => ⟨by have := hb.1; have := HR5.out.2.2; omega, by simp only [msize]; exact hb.2.1, (hb.2.2.set _ _).set _ _⟩)
      refine hK.out _ _ sW (fun hS' => ?_)
      clear hK K hS sW bb
      have hS := hS'
      clear hS'
      try simp only [Act.put, List.getElem_toArray, List.getElem_cons_zero, List.getElem_cons_succ, List.setIfInBounds_toArray, List.set_cons_zero, List.set_cons_succ]
      refine wpAnyH_take (i := 8) (oi := _) (v := ?_) rfl (by kernel_rfl) (by kernel_rfl) (by kernel_rfl) (fun _ _ _ h => h) (Or.inl ⟨by rfl, ?_⟩) hS ?_
      rotate_left
      · (intro w hSw; (try dsimp only at hSw); go_simp; (try with_reducible rfl))
      rotate_left
      simp only [Act.put, List.getElem_toArray, List.getElem_cons_zero, List.getElem_cons_succ, List.setIfInBounds_toArray, List.set_cons_zero, List.set_cons_succ]
      refine wpAnyH_done (by kernel_rfl) ?_ _
      clear hS PV ZV tV HR5 HD4
      generalize (v5.setCell ⟨w2.heap.size, 0, none⟩ (.slice A5 4 c5)).setCell ⟨w2.heap.size, 1, none⟩ (.slice B5 1 d5) = w9 at *
      have pw := PW.cell
      have zw := ZW.cell
      have zf := ZW.free
      have HRW := Lib.hid (And.intro rW uW)
      clear rW uW
      go_wp2
      have B5' : BoxOf _ w.heap.size #[.slice A5 4 c5, .slice B5 1 d5] 28 := mbox_self (mbox_self ZW 0 (.slice A5 4 c5)) 1 (.slice B5 1 d5)
      have T5 := Below.setCell (p := ⟨w.heap.size, 1, none⟩) (Below.setCell (p := ⟨w.heap.size, 0, none⟩) tW (Nat.le_refl _) (.slice A5 4 c5)) (Nat.le_refl _) (.slice B5 1 d5)
      exact bodyPost_ret (v := .tuple #[.agg #[.slice A5 4 c5, .slice B5 1 d5], .bool true]) (Eq.trans (results_row2 (P := Try.prog) (fn := Try.f22) (p := 0) (u := 1) (ty := 28) rfl _ _ w.heap.size 28 #[.slice A5 4 c5, .slice B5 1 d5] (0, 0) _ rfl B5' Try.underlying28 rfl (by kernel_rfl)) rfl) rfl ⟨⟨A5, c5, B5, d5, rfl, ((HRW.out.1.setElse (k := w.heap.size) (fun b hb => by have := hb.1; omega) 0 (.slice A5 4 c5)).setElse (k := w.heap.size) (fun b hb => by have := hb.1; omega) 1 (.slice B5 1 d5)).mono (S' := NewB w.heap.size ((w9.setCell ⟨w.heap.size, 0, none⟩ (.slice A5 4 c5)).setCell ⟨w.heap.size, 1, none⟩ (.slice B5 1 d5))) (fun b hb => ⟨by have := hb.1; omega, by simp only [msize]; exact hb.2.1, (hb.2.2.set _ _).set _ _⟩), ((HRW.out.2.setElse (k := w.heap.size) (fun b hb => by have := hb.1; omega) 0 (.slice A5 4 c5)).setElse (k := w.heap.size) (fun b hb => by have := hb.1; omega) 1 (.slice B5 1 d5)).mono (S' := NewB w.heap.size ((w9.setCell ⟨w.heap.size, 0, none⟩ (.slice A5 4 c5)).setCell ⟨w.heap.size, 1, none⟩ (.slice B5 1 d5))) (fun b hb => ⟨by have := hb.1; omega, by simp only [msize]; exact hb.2.1, (hb.2.2.set _ _).set _ _⟩)⟩, T5⟩
    · rw [if_pos (by rfl)]
      go_simp
      refine (write_any 1 _).mono ?_
      rintro e v4 ⟨⟨g4, rfl, r4⟩, k4⟩
      have HD4 := Lib.hid (r4.mono (S' := fun _ => True) fun _ _ => trivial)
      have bb' := Ext.trans bb k4
      refine hK.out _ _ (bb'.mono HLE.out) (fun hS' => ?_)
      clear hK K hS bb
      have hS := hS'
      have bb := bb'
      clear hS' bb'
      try simp only [Act.put, List.getElem_toArray, List.getElem_cons_zero, List.getElem_cons_succ, List.setIfInBounds_toArray, List.set_cons_zero, List.set_cons_succ]
      clear k4 r4
      refine wpAnyH_ready (rs := [1]) (by kernel_rfl) (by simp) ?_
      refine AllReadyH.cons rfl (fun K hK => ?_) AllReadyH.nil
      rw [if_pos (by rfl)]
      have yQ := (P3.next bb).cell
      go_simp
      refine hK.out _ _ (bb.mono HLE.out) (fun hS' => ?_)
      clear yQ hK K hS
      have hS := hS'
      clear hS'
      try simp only [Act.put, List.getElem_toArray, List.getElem_cons_zero, List.getElem_cons_succ, List.setIfInBounds_toArray, List.set_cons_zero, List.set_cons_succ]
      refine wpAnyH_ready (rs := [3]) (by kernel_rfl) (by simp) ?_
      refine AllReadyH.cons rfl (fun K hK => ?_) AllReadyH.nil
      rw [if_pos (by rfl)]
      go_simp
      refine (begin_two Ay cy g4 _ ((HNY.out.below (Ext.trans b3 bb)).mono fun _ _ => trivial) HD4.out).mono ?_
      rintro e v5 ⟨⟨A5, c5, B5, d5, rfl, ry5, rg5⟩, k5⟩
      have hv4 := bb.size
      have HR5 := Lib.hid (And.intro ry5 (And.intro rg5 (Nat.le_trans HLE2.out hv4)))
      clear ry5 rg5 hv4
      have bb' := Ext.trans bb k5
      refine hK.out _ _ (bb'.mono HLE.out) (fun hS' => ?_)
      clear hK K hS bb
      have hS := hS'
      have bb := bb'
      clear hS' bb'
      try simp only [Act.put, List.getElem_toArray, List.getElem_cons_zero, List.getElem_cons_succ, List.setIfInBounds_toArray, List.set_cons_zero, List.set_cons_succ]
      clear k5
      refine wpAnyH_take (i := 4) (oi := _) (v := ?_) rfl (by kernel_rfl) (by kernel_rfl) (by kernel_rfl) (fun _ _ _ h => h) (Or.inl ⟨by rfl, ?_⟩) hS ?_
      rotate_left
      · (intro w hSw; (try dsimp only at hSw); go_simp; (try with_reducible rfl))
      rotate_left
      simp only [Act.put, List.getElem_toArray, List.getElem_cons_zero, List.getElem_cons_succ, List.setIfInBounds_toArray, List.set_cons_zero, List.set_cons_succ]
      refine wpAnyH_take (i := 5) (oi := _) (v := ?_) rfl (by kernel_rfl) (by kernel_rfl) (by kernel_rfl) (fun _ _ _ h => h) (Or.inl ⟨by rfl, ?_⟩) hS ?_
      rotate_left
      · (intro w hSw; (try dsimp only at hSw); go_simp; (try with_reducible rfl))
      rotate_left
      simp only [Act.put, List.getElem_toArray, List.getElem_cons_zero, List.getElem_cons_succ, List.setIfInBounds_toArray, List.set_cons_zero, List.set_cons_succ]
      refine wpAnyH_take (i := 6) (oi := _) (v := ?_) rfl (by kernel_rfl) (by kernel_rfl) (by kernel_rfl) (fun _ _ _ h => h) (Or.inl ⟨by rfl, ?_⟩) hS ?_
      rotate_left
      · (intro w hSw; (try dsimp only at hSw); go_simp; (try with_reducible rfl))
      rotate_left
      simp only [Act.put, List.getElem_toArray, List.getElem_cons_zero, List.getElem_cons_succ, List.setIfInBounds_toArray, List.set_cons_zero, List.set_cons_succ]
      refine wpAnyH_ready (rs := [7]) (by kernel_rfl) (by simp) ?_
      refine AllReadyH.cons rfl (fun K hK => ?_) AllReadyH.nil
      rw [if_pos (by rfl)]
      have PV := P3.next bb
      have ZV := Z3.next bb
      have tV := Ext.trans t3 bb
      have pv := PV.cell
      have pf := PV.free
      have hlo3 := HL3.out
      go_simp
      clear pv pf
      have PW : BoxOf _ w2.heap.size #[.slice A5 4 c5, .slice B5 1 d5] 28 := mbox_self (mbox_self PV 0 (.slice A5 4 c5)) 1 (.slice B5 1 d5)
      have ZW := mbox_else (mbox_else ZV (show w.heap.size ≠ w2.heap.size by omega) 0 (.slice A5 4 c5)) (show w.heap.size ≠ w2.heap.size by omega) 1 (.slice B5 1 d5)
      have tW := Below.setCell (p := ⟨w2.heap.size, 1, none⟩) (Below.setCell (p := ⟨w2.heap.size, 0, none⟩) tV (show w.heap.size ≤ w2.heap.size by omega) (.slice A5 4 c5)) (show w.heap.size ≤ w2.heap.size by omega) (.slice B5 1 d5)
      have sW := Below.setCell (p := ⟨w2.heap.size, 1, none⟩) (Below.setCell (p := ⟨w2.heap.size, 0, none⟩) (bb.mono HLE.out) (Nat.le_refl _) (.slice A5 4 c5)) (Nat.le_refl _) (.slice B5 1 d5)
      have rW := ((HR5.out.1.setElse (k := w2.heap.size) (fun b hb => by have := hb.1; have := HR5.out.2.2; omega) 0 (.slice A5 4 c5)).setElse (k := w2.heap.size) (fun b hb => by have := hb.1; have := HR5.out.2.2; omega) 1 (.slice B5 1 d5)).mono (S' := NewB (w.heap.size + 1) ((v5.setCell ⟨w2.heap.size, 0, none⟩ (.slice A5 4 c5)).setCell ⟨w2.heap.size, 1, none⟩ (.slice B5 1 d5))) (fun b hb => ⟨by have := hb.1; have := HR5.out.2.2; omega, by simp only [msize]; exact hb.2.1, (hb.2.2.set _ _).set _ _⟩)
      have uW := ((HR5.out.2.1.setElse (k := w2.heap.size) (fun b hb => by have := hb.1; have := HR5.out.2.2; omega) 0 (.slice A5 4 c5)).setElse (k := w2.heap.size) (fun b hb => by have := hb.1; have := HR5.out.2.2; omega) 1 (.slice B5 1 d5)).mono (S' := NewB (w.heap.size + 1) ((v5.setCell ⟨w2.heap.size, 0, none⟩ (.slice A5 4 c5)).setCell ⟨w2.heap.size, 1, none⟩ (.slice B5 1 d5))) (fun b hb => ⟨by have := hb.1; have := HR5.out.2.2; omega, by simp only [msize]; exact hb.2.1, (hb.2.2.set _ _).set _ _⟩)
      refine hK.out _ _ sW (fun hS' => ?_)
      clear hK K hS sW bb
      have hS := hS'
      clear hS'
      try simp only [Act.put, List.getElem_toArray, List.getElem_cons_zero, List.getElem_cons_succ, List.setIfInBounds_toArray, List.set_cons_zero, List.set_cons_succ]
      refine wpAnyH_take (i := 8) (oi := _) (v := ?_) rfl (by kernel_rfl) (by kernel_rfl) (by kernel_rfl) (fun _ _ _ h => h) (Or.inl ⟨by rfl, ?_⟩) hS ?_
      rotate_left
      · (intro w hSw; (try dsimp only at hSw); go_simp; (try with_reducible rfl))
      rotate_left
      simp only [Act.put, List.getElem_toArray, List.getElem_cons_zero, List.getElem_cons_succ, List.setIfInBounds_toArray, List.set_cons_zero, List.set_cons_succ]
      refine wpAnyH_done (by kernel_rfl) ?_ _
      clear hS PV ZV tV HR5 HD4
      generalize (v5.setCell ⟨w2.heap.size, 0, none⟩ (.slice A5 4 c5)).setCell ⟨w2.heap.size, 1, none⟩ (.slice B5 1 d5) = w9 at *
      have pw := PW.cell
      have zw := ZW.cell
      have zf := ZW.free
      have HRW := Lib.hid (And.intro rW uW)
      clear rW uW
      go_wp2
      have B5' : BoxOf _ w.heap.size #[.slice A5 4 c5, .slice B5 1 d5] 28 := mbox_self (mbox_self ZW 0 (.slice A5 4 c5)) 1 (.slice B5 1 d5)
      have T5 := Below.setCell (p := ⟨w.heap.size, 1, none⟩) (Below.setCell (p := ⟨w.heap.size, 0, none⟩) tW (Nat.le_refl _) (.slice A5 4 c5)) (Nat.le_refl _) (.slice B5 1 d5)
      exact bodyPost_ret (v := .tuple #[.agg #[.slice A5 4 c5, .slice B5 1 d5], .bool true]) (Eq.trans (results_row2 (P := Try.prog) (fn := Try.f22) (p := 0) (u := 1) (ty := 28) rfl _ _ w.heap.size 28 #[.slice A5 4 c5, .slice B5 1 d5] (0, 0) _ rfl B5' Try.underlying28 rfl (by kernel_rfl)) rfl) rfl ⟨⟨A5, c5, B5, d5, rfl, ((HRW.out.1.setElse (k := w.heap.size) (fun b hb => by have := hb.1; omega) 0 (.slice A5 4 c5)).setElse (k := w.heap.size) (fun b hb => by have := hb.1; omega) 1 (.slice B5 1 d5)).mono (S' := NewB w.heap.size ((w9.setCell ⟨w.heap.size, 0, none⟩ (.slice A5 4 c5)).setCell ⟨w.heap.size, 1, none⟩ (.slice B5 1 d5))) (fun b hb => ⟨by have := hb.1; omega, by simp only [msize]; exact hb.2.1, (hb.2.2.set _ _).set _ _⟩), ((HRW.out.2.setElse (k := w.heap.size) (fun b hb => by have := hb.1; omega) 0 (.slice A5 4 c5)).setElse (k := w.heap.size) (fun b hb => by have := hb.1; omega) 1 (.slice B5 1 d5)).mono (S' := NewB w.heap.size ((w9.setCell ⟨w.heap.size, 0, none⟩ (.slice A5 4 c5)).setCell ⟨w.heap.size, 1, none⟩ (.slice B5 1 d5))) (fun b hb => ⟨by have := hb.1; omega, by simp only [msize]; exact hb.2.1, (hb.2.2.set _ _).set _ _⟩)⟩, T5⟩
  · rw [if_pos (by rfl)]
    have yQ := (P3.next bb).cell
    go_simp
    refine hK.out _ _ (bb.mono HLE.out) (fun hS' => ?_)
    clear yQ hK K hS
    have hS := hS'
    clear hS'
    try simp only [Act.put, List.getElem_toArray, List.getElem_cons_zero, List.getElem_cons_succ, List.setIfInBounds_toArray, List.set_cons_zero, List.set_cons_succ]
    refine wpAnyH_ready (rs := [0]) (by kernel_rfl) (by simp) ?_
    refine AllReadyH.cons rfl (fun K hK => ?_) AllReadyH.nil
    rw [if_pos (by rfl)]
    go_simp
    refine (two_any _).mono ?_
    rintro e v3 ⟨rfl, k3⟩
    have bb' := Ext.trans bb k3
    refine hK.out _ _ (bb'.mono HLE.out) (fun hS' => ?_)
    clear hK K hS bb
    have hS := hS'
    have bb := bb'
    clear hS' bb'
    try simp only [Act.put, List.getElem_toArray, List.getElem_cons_zero, List.getElem_cons_succ, List.setIfInBounds_toArray, List.set_cons_zero, List.set_cons_succ]
    clear k3
    refine wpAnyH_ready (rs := [2]) (by kernel_rfl) (by simp) ?_
    refine AllReadyH.cons rfl (fun K hK => ?_) AllReadyH.nil
    rw [if_pos (by rfl)]
    go_simp
    refine (write_any 1 _).mono ?_
    rintro e v4 ⟨⟨g4, rfl, r4⟩, k4⟩
    have HD4 := Lib.hid (r4.mono (S' := fun _ => True) fun _ _ => trivial)
    have bb' := Ext.trans bb k4
    refine hK.out _ _ (bb'.mono HLE.out) (fun hS' => ?_)
    clear hK K hS bb
    have hS := hS'
    have bb := bb'
    clear hS' bb'
    try simp only [Act.put, List.getElem_toArray, List.getElem_cons_zero, List.getElem_cons_succ, List.setIfInBounds_toArray, List.set_cons_zero, List.set_cons_succ]
    clear k4 r4
    refine wpAnyH_ready (rs := [3]) (by kernel_rfl) (by simp) ?_
    refine AllReadyH.cons rfl (fun K hK => ?_) AllReadyH.nil
    rw [if_pos (by rfl)]
    go_simp
    refine (begin_two Ay cy g4 _ ((HNY.out.below (Ext.trans b3 bb)).mono fun _ _ => trivial) HD4.out).mono ?_
    rintro e v5 ⟨⟨A5, c5, B5, d5, rfl, ry5, rg5⟩, k5⟩
    have hv4 := bb.size
    have HR5 := Lib.hid (And.intro ry5 (And.intro rg5 (Nat.le_trans HLE2.out hv4)))
    clear ry5 rg5 hv4
    have bb' := Ext.trans bb k5
    refine hK.out _ _ (bb'.mono HLE.out) (fun hS' => ?_)
    clear hK K hS bb
    have hS := hS'
    have bb := bb'
    clear hS' bb'
    try simp only [Act.put, List.getElem_toArray, List.getElem_cons_zero, List.getElem_cons_succ, List.setIfInBounds_toArray, List.set_cons_zero, List.set_cons_succ]
    clear k5
    refine wpAnyH_take (i := 4) (oi := _) (v := ?_) rfl (by kernel_rfl) (by kernel_rfl) (by kernel_rfl) (fun _ _ _ h => h) (Or.inl ⟨by rfl, ?_⟩) hS ?_
    rotate_left
    · (intro w hSw; (try dsimp only at hSw); go_simp; (try with_reducible rfl))
    rotate_left
    simp only [Act.put, List.getElem_toArray, List.getElem_cons_zero, List.getElem_cons_succ, List.setIfInBounds_toArray, List.set_cons_zero, List.set_cons_succ]
    refine wpAnyH_take (i := 5) (oi := _) (v := ?_) rfl (by kernel_rfl) (by kernel_rfl) (by kernel_rfl) (fun _ _ _ h => h) (Or.inl ⟨by rfl, ?_⟩) hS ?_
    rotate_left
    · (intro w hSw; (try dsimp only at hSw); go_simp; (try with_reducible rfl))
    rotate_left
    simp only [Act.put, List.getElem_toArray, List.getElem_cons_zero, List.getElem_cons_succ, List.setIfInBounds_toArray, List.set_cons_zero, List.set_cons_succ]
    refine wpAnyH_take (i := 6) (oi := _) (v := ?_) rfl (by kernel_rfl) (by kernel_rfl) (by kernel_rfl) (fun _ _ _ h => h) (Or.inl ⟨by rfl, ?_⟩) hS ?_
    rotate_left
    · (intro w hSw; (try dsimp only at hSw); go_simp; (try with_reducible rfl))
    rotate_left
    simp only [Act.put, List.getElem_toArray, List.getElem_cons_zero, List.getElem_cons_succ, List.setIfInBounds_toArray, List.set_cons_zero, List.set_cons_succ]
    refine wpAnyH_ready (rs := [7]) (by kernel_rfl) (by simp) ?_
    refine AllReadyH.cons rfl (fun K hK => ?_) AllReadyH.nil
    rw [if_pos (by rfl)]
    have PV := P3.next bb
    have ZV := Z3.next bb
    have tV := Ext.trans t3 bb
    have pv := PV.cell
    have pf := PV.free
    have hlo3 := HL3.out
    go_simp
    clear pv pf
    have PW : BoxOf _ w2.heap.size #[.slice A5 4 c5, .slice B5 1 d5] 28 := mbox_self (mbox_self PV 0 (.slice A5 4 c5)) 1 (.slice B5 1 d5)
    have ZW := mbox_else (mbox_else ZV (show w.heap.size ≠ w2.heap.size by omega) 0 (.slice A5 4 c5)) (show w.heap.size ≠ w2.heap.size by omega) 1 (.slice B5 1 d5)
    have tW := Below.setCell (p := ⟨w2.heap.size, 1, none⟩) (Below.setCell (p := ⟨w2.heap.size, 0, none⟩) tV (show w.heap.size ≤ w2.heap.size by omega) (.slice A5 4 c5)) (show w.heap.size ≤ w2.heap.size by omega) (.slice B5 1 d5)
    have sW := Below.setCell (p := ⟨w2.heap.size, 1, none⟩) (Below.setCell (p := ⟨w2.heap.size, 0, none⟩) (bb.mono HLE.out) (Nat.le_refl _) (.slice A5 4 c5)) (Nat.le_refl _) (.slice B5 1 d5)
    have rW := ((HR5.out.1.setElse (k := w2.heap.size) (fun b hb => by have := hb.1; have := HR5.out.2.2; omega) 0 (.slice A5 4 c5)).setElse (k := w2.heap.size) (fun b hb => by have := hb.1; have := HR5.out.2.2; omega) 1 (.slice B5 1 d5)).mono (S' := NewB (w.heap.size + 1) ((v5.setCell ⟨w2.heap.size, 0, none⟩ (.slice A5 4 c5)).setCell ⟨w2.heap.size, 1, none⟩ (.slice B5 1 d5))) (fun b hb => ⟨by have := hb.1; have := HR5.out.2.2; omega, by simp only [msize]; exact hb.2.1, (hb.2.2.set _ _).set _ _⟩)
    have uW := ((HR5.out.2.1.setElse (k := w2.heap.size) (fun b hb => by have := hb.1; have := HR5.out.2.2; omega) 0 (.slice A5 4 c5)).setElse (k := w2.heap.size) (fun b hb => by have := hb.1; have := HR5.out.2.2; omega) 1 (.slice B5 1 d5)).mono (S' := NewB (w.heap.size + 1) ((v5.setCell ⟨w2.heap.size, 0, none⟩ (.slice A5 4 c5)).setCell ⟨w2.heap.size, 1, none⟩ (.slice B5 1 d5))) (fun b hb => ⟨by have := hb.1; have := HR5.out.2.2; omega, by simp only [msize]; exact hb.2.1, (hb.2.2.set _ _).set _ _⟩)
    refine hK.out _ _ sW (fun hS' => ?_)
    clear hK K hS sW bb
    have hS := hS'
    clear hS'
    try simp only [Act.put, List.getElem_toArray, List.getElem_cons_zero, List.getElem_cons_succ, List.setIfInBounds_toArray, List.set_cons_zero, List.set_cons_succ]
    refine wpAnyH_take (i := 8) (oi := _) (v := ?_) rfl (by kernel_rfl) (by kernel_rfl) (by kernel_rfl) (fun _ _ _ h => h) (Or.inl ⟨by rfl, ?_⟩) hS ?_
    rotate_left
    · (intro w hSw; (try dsimp only at hSw); go_simp; (try with_reducible rfl))
    rotate_left
    simp only [Act.put, List.getElem_toArray, List.getElem_cons_zero, List.getElem_cons_succ, List.setIfInBounds_toArray, List.set_cons_zero, List.set_cons_succ]
    refine wpAnyH_done (by kernel_rfl) ?_ _
    clear hS PV ZV tV HR5 HD4
    generalize (v5.setCell ⟨w2.heap.size, 0, none⟩ (.slice A5 4 c5)).setCell ⟨w2.heap.size, 1, none⟩ (.slice B5 1 d5) = w9 at *
    have pw := PW.cell
    have zw := ZW.cell
    have zf := ZW.free
    have HRW := Lib.hid (And.intro rW uW)
    clear rW uW
    go_wp2
    have B5' : BoxOf _ w.heap.size #[.slice A5 4 c5, .slice B5 1 d5] 28 := mbox_self (mbox_self ZW 0 (.slice A5 4 c5)) 1 (.slice B5 1 d5)
    have T5 := Below.setCell (p := ⟨w.heap.size, 1, none⟩) (Below.setCell (p := ⟨w.heap.size, 0, none⟩) tW (Nat.le_refl _) (.slice A5 4 c5)) (Nat.le_refl _) (.slice B5 1 d5)
    exact bodyPost_ret (v := .tuple #[.agg #[.slice A5 4 c5, .slice B5 1 d5], .bool true]) (Eq.trans (results_row2 (P := Try.prog) (fn := Try.f22) (p := 0) (u := 1) (ty := 28) rfl _ _ w.heap.size 28 #[.slice A5 4 c5, .slice B5 1 d5] (0, 0) _ rfl B5' Try.underlying28 rfl (by kernel_rfl)) rfl) rfl ⟨⟨A5, c5, B5, d5, rfl, ((HRW.out.1.setElse (k := w.heap.size) (fun b hb => by have := hb.1; omega) 0 (.slice A5 4 c5)).setElse (k := w.heap.size) (fun b hb => by have := hb.1; omega) 1 (.slice B5 1 d5)).mono (S' := NewB w.heap.size ((w9.setCell ⟨w.heap.size, 0, none⟩ (.slice A5 4 c5)).setCell ⟨w.heap.size, 1, none⟩ (.slice B5 1 d5))) (fun b hb => ⟨by have := hb.1; omega, by simp only [msize]; exact hb.2.1, (hb.2.2.set _ _).set _ _⟩), ((HRW.out.2.setElse (k := w.heap.size) (fun b hb => by have := hb.1; omega) 0 (.slice A5 4 c5)).setElse (k := w.heap.size) (fun b hb => by have := hb.1; omega) 1 (.slice B5 1 d5)).mono (S' := NewB w.heap.size ((w9.setCell ⟨w.heap.size, 0, none⟩ (.slice A5 4 c5)).setCell ⟨w.heap.size, 1, none⟩ (.slice B5 1 d5))) (fun b hb => ⟨by have := hb.1; omega, by simp only [msize]; exact hb.2.1, (hb.2.2.set _ _).set _ _⟩)⟩, T5⟩
set_option maxRecDepth 100000 in
set_option maxHeartbeats 2000000 in
theorem maylaw_any (S : Nat → Prop) (ys : List (List (List UInt8))) (gs : List GoTy.T) (hp : PlainOk cfgTwo ys gs) (A : Option Addr) (ca : Nat) (B : Option Addr) (cb : Nat) (x : UInt8) (w : World) (hy : RdIn w S (.sl (.sl (.sl .byte))) ys [.slice A ys.length ca]) (hg : RdIn w S (.sl GoTy) gs [.slice B gs.length cb]) :
    Calls Try.prog 27 #[.agg #[.slice A ys.length ca, .slice B gs.length cb], .int .u8 (x.toNat : Int)] w fun e w' => YesNo (LeftP ys gs 0 (fullL x)) e ∧ Below w.heap.size w w' := by
  have P0 := BoxOf.new w #[.slice A ys.length ca, .slice B gs.length cb] 28
  have t0 := Ext.alloc (Below.refl w.heap.size w) (.cells #[.slice A ys.length ca, .slice B gs.length cb] 28)
  have HM : Hid (∀ (w' : World) (g : Nat), Below w.heap.size w w' → RdIn w' (fun _ => True) (.sl .byte) (fullL x) [.slice (some ⟨g, 0, none⟩) 128 128] → Calls Try.prog 11 #[cfgTwo.val, .agg #[.slice A ys.length ca, .slice B gs.length cb], .int .i64 0, .slice (some ⟨g, 0, none⟩) 128 128] w' fun e w'' => (∃ b, e = .returned (.tuple #[.bool b, .int .i64 0]) ∧ (b = true ↔ LeftP ys gs 0 (fullL x))) ∧ Below w'.heap.size w' w'') := fun w' g bb hd => by
    have hb : Bs w' (some ⟨g, 0, none⟩) (fullL x).length (fullL x) := RdIn.bytes_bs (c := 128) (A := some ⟨g, 0, none⟩) hd
    refine Calls.mono (smay_any S cfgTwo ys gs A ca B cb 0 (some ⟨g, 0, none⟩) 128 (fullL x) w' (hy.below bb) (hg.below bb) hb) ?_
    rintro e w'' ⟨⟨b, v, rfl, hr⟩, bb2⟩
    have hlen : (0 : Int) < (ys.length : Int) := by rw [hp.len]; decide
    rcases hr with ⟨h1, _⟩ | ⟨_, h2, _⟩ | ⟨_, _, h3, _⟩ | ⟨_, _, _, h4, rfl⟩
    · exact absurd hp h1
    · exact absurd ⟨Int.le_refl 0, hlen⟩ h2
    · exact absurd (fullL_len x) h3
    · exact ⟨⟨b, rfl, h4⟩, bb2⟩
  clear hy hg hp
  go_enter Try.func27, Try.ntmps27
  go_upto_region 1 with fail
  have HT0 := Lib.hid t0
  clear t0
  generalize w.alloc (.cells #[.slice A ys.length ca, .slice B gs.length cb] 28) = W at *
  have HS : Hid (∀ w', Below W.heap.size W w' → Below W.heap.size W w' ∧ (∀ o, w'.cell? ⟨w.heap.size, o, none⟩ = #[Value.slice A ys.length ca, Value.slice B gs.length cb].toList[o]?)) := fun w' b => ⟨b, (P0.next b).cell⟩
  refine wp_region_held_drew (S := fun w' => Below W.heap.size W w' ∧ (∀ o, w'.cell? ⟨w.heap.size, o, none⟩ = #[Value.slice A ys.length ca, Value.slice B gs.length cb].toList[o]?)) (by kernel_rfl) (HS.out _ (Ext.drew (Below.refl _ _))) (fun hS => ?_)
  refine wpAnyH_take (i := 1) (oi := _) (v := ?_) rfl (by kernel_rfl) (by kernel_rfl) (by kernel_rfl) (fun _ _ _ h => h) (Or.inl ⟨by rfl, ?_⟩) hS ?_
  rotate_left
  · (intro w hSw; (try dsimp only at hSw); go_simp; (try with_reducible rfl))
  rotate_left
  simp only [Act.put, List.getElem_toArray, List.getElem_cons_zero, List.getElem_cons_succ, List.setIfInBounds_toArray, List.set_cons_zero, List.set_cons_succ]
  refine wpAnyH_take (i := 2) (oi := _) (v := ?_) rfl (by kernel_rfl) (by kernel_rfl) (by kernel_rfl) (fun _ _ _ h => h) (Or.inl ⟨by rfl, ?_⟩) hS ?_
  rotate_left
  · (intro w hSw; (try dsimp only at hSw); go_simp; (try with_reducible rfl))
  rotate_left
  simp only [Act.put, List.getElem_toArray, List.getElem_cons_zero, List.getElem_cons_succ, List.setIfInBounds_toArray, List.set_cons_zero, List.set_cons_succ]
  refine wpAnyH_ready (rs := [0]) (by kernel_rfl) (by simp) ?_
  refine AllReadyH.cons rfl (fun K hK => ?_) AllReadyH.nil
  rw [if_pos (by rfl)]
  go_simp
  refine (two_any _).mono ?_
  rintro e v3 ⟨rfl, k3⟩
  refine hK.out _ _ (HS.out _ (Ext.trans hS.1 k3)) (fun hS' => ?_)
  clear hK K hS
  have hS := hS'
  clear hS'
  try simp only [Act.put, List.getElem_toArray, List.getElem_cons_zero, List.getElem_cons_succ, List.setIfInBounds_toArray, List.set_cons_zero, List.set_cons_succ]
  clear k3
  refine wpAnyH_ready (rs := [3]) (by kernel_rfl) (by simp) ?_
  refine AllReadyH.cons rfl (fun K hK => ?_) AllReadyH.nil
  rw [if_pos (by rfl)]
  go_simp
  refine (full_any x _).mono ?_
  rintro e v4 ⟨⟨g4, rfl, r4⟩, k4⟩
  have HD4 := Lib.hid (r4.mono (S' := fun _ => True) fun _ _ => trivial)
  refine hK.out _ _ (HS.out _ (Ext.trans hS.1 k4)) (fun hS' => ?_)
  clear hK K hS
  have hS := hS'
  clear hS'
  try simp only [Act.put, List.getElem_toArray, List.getElem_cons_zero, List.getElem_cons_succ, List.setIfInBounds_toArray, List.set_cons_zero, List.set_cons_succ]
  clear k4 r4
  refine wpAnyH_ready (rs := [4]) (by kernel_rfl) (by simp) ?_
  refine AllReadyH.cons rfl (fun K hK => ?_) AllReadyH.nil
  rw [if_pos (by rfl)]
  go_simp
  refine (HM.out _ g4 (Ext.trans HT0.out hS.1) HD4.out).mono ?_
  rintro e v5 ⟨⟨b, rfl, hb⟩, k5⟩
  have HB := Lib.hid hb
  refine hK.out _ _ (HS.out _ (Ext.trans hS.1 k5)) (fun hS' => ?_)
  clear hK K hS
  have hS := hS'
  clear hS'
  try simp only [Act.put, List.getElem_toArray, List.getElem_cons_zero, List.getElem_cons_succ, List.setIfInBounds_toArray, List.set_cons_zero, List.set_cons_succ]
  clear k5 hb
  refine wpAnyH_take (i := 5) (oi := _) (v := ?_) rfl (by kernel_rfl) (by kernel_rfl) (by kernel_rfl) (fun _ _ _ h => h) (Or.inl ⟨by rfl, ?_⟩) hS ?_
  rotate_left
  · (intro w hSw; (try dsimp only at hSw); go_simp; (try with_reducible rfl))
  rotate_left
  simp only [Act.put, List.getElem_toArray, List.getElem_cons_zero, List.getElem_cons_succ, List.setIfInBounds_toArray, List.set_cons_zero, List.set_cons_succ]
  refine wpAnyH_take (i := 6) (oi := _) (v := ?_) rfl (by kernel_rfl) (by kernel_rfl) (by kernel_rfl) (fun _ _ _ h => h) (Or.inl ⟨by rfl, ?_⟩) hS ?_
  rotate_left
  · (intro w hSw; (try dsimp only at hSw); go_simp; (try with_reducible rfl))
  rotate_left
  simp only [Act.put, List.getElem_toArray, List.getElem_cons_zero, List.getElem_cons_succ, List.setIfInBounds_toArray, List.set_cons_zero, List.set_cons_succ]
  refine wpAnyH_take (i := 7) (oi := _) (v := ?_) rfl (by kernel_rfl) (by kernel_rfl) (by kernel_rfl) (fun _ _ _ h => h) (Or.inl ⟨by rfl, ?_⟩) hS ?_
  rotate_left
  · (intro w hSw; (try dsimp only at hSw); go_simp; (try with_reducible rfl))
  rotate_left
  simp only [Act.put, List.getElem_toArray, List.getElem_cons_zero, List.getElem_cons_succ, List.setIfInBounds_toArray, List.set_cons_zero, List.set_cons_succ]
  refine wpAnyH_take (i := 8) (oi := _) (v := ?_) rfl (by kernel_rfl) (by kernel_rfl) (by kernel_rfl) (fun _ _ _ h => h) (Or.inl ⟨by rfl, ?_⟩) hS ?_
  rotate_left
  · (intro w hSw; (try dsimp only at hSw); go_simp; (try with_reducible rfl))
  rotate_left
  simp only [Act.put, List.getElem_toArray, List.getElem_cons_zero, List.getElem_cons_succ, List.setIfInBounds_toArray, List.set_cons_zero, List.set_cons_succ]
  refine wpAnyH_take (i := 9) (oi := _) (v := ?_) rfl (by kernel_rfl) (by kernel_rfl) (by kernel_rfl) (fun _ _ _ h => h) (Or.inl ⟨by rfl, ?_⟩) hS ?_
  rotate_left
  · (intro w hSw; (try dsimp only at hSw); go_simp; (try with_reducible rfl))
  rotate_left
  simp only [Act.put, List.getElem_toArray, List.getElem_cons_zero, List.getElem_cons_succ, List.setIfInBounds_toArray, List.set_cons_zero, List.set_cons_succ]
  refine wpAnyH_done (by kernel_rfl) ?_ _
  have tE := Ext.trans HT0.out hS.1
  clear hS HS HD4 HM
  go_wp2
  go_ret
  exact ⟨⟨b, rfl, HB.out⟩, tE⟩
set_option maxRecDepth 100000 in
set_option maxHeartbeats 2000000 in
theorem alive30_any (w : World) : Calls Try.prog 17 #[] w fun e w' => e = .returned (.bool true) ∧ Below w.heap.size w w' := by
  have HBG := Lib.hid (begun_any w)
  go_enter Try.func17, Try.ntmps17
  go_wp2_with fail
  refine HBG.out.mono ?_
  rintro e w1 ⟨⟨A, c, B, d, rfl, ry, rg⟩, t1⟩
  have b2 := Ext.alloc (Below.refl w1.heap.size w1) (.cells #[.slice A 4 c, .slice B 1 d] 28)
  have P2 := BoxOf.new w1 #[.slice A 4 c, .slice B 1 d] 28
  have t2 := Ext.trans t1 b2
  have HM : Hid (∀ (x : UInt8) (w' : World), Below w1.heap.size w1 w' → Calls Try.prog 27 #[.agg #[.slice A 4 c, .slice B 1 d], .int .u8 (x.toNat : Int)] w' fun e w'' => YesNo (LeftP (nulls 4) [begGo] 0 (fullL x)) e ∧ Below w'.heap.size w' w'') := fun x w' bb => maylaw_any _ (nulls 4) [begGo] two_plain1 A c B d x w' (ry.below bb) (rg.below bb)
  have HB2 := Lib.hid b2
  clear ry rg t1 b2
  go_upto_region 2 with fail
  generalize w1.alloc (.cells #[.slice A 4 c, .slice B 1 d] 28) = W at *
  have p2 := P2.cell
  go_wp2_with fail
  refine (HM.out 1 _ HB2.out).mono ?_
  rintro e w3 ⟨⟨v3, rfl, h3⟩, b3⟩
  obtain rfl : v3 = true := h3.2 left_1
  have P3 := P2.next b3
  have p3 := P3.cell
  have t3 := Ext.trans t2 b3
  have c3 := Ext.trans HB2.out b3
  clear p2 h3 P2 t2 b3
  go_wp2_with fail
  refine (HM.out 2 _ c3).mono ?_
  rintro e w4 ⟨⟨v4, rfl, h4⟩, b4⟩
  obtain rfl : v4 = false := by
    cases v4
    · rfl
    · exact absurd (h4.1 rfl) left_2
  have P4 := P3.next b4
  have p4 := P4.cell
  have t4 := Ext.trans t3 b4
  have c4 := Ext.trans c3 b4
  clear p3 h4 P3 t3 b4 c3
  go_wp2_with fail
  refine (HM.out 0 _ c4).mono ?_
  rintro e w5 ⟨⟨v5, rfl, h5⟩, b5⟩
  obtain rfl : v5 = true := h5.2 left_0
  have t5 := Ext.trans t4 b5
  go_wp2
  go_ret
  exact ⟨rfl, t5⟩
end Go.Proofs.Ytclbihcggjjgaaa
/- Layer 30 (model): blocks that a crash may leave, picked. -/
namespace Go.Proofs.Ytclbihcggjjgaaa
open Go Go.RowKit
set_option linter.unusedSimpArgs false
set_option linter.unusedVariables false

/-- each is one of the values that its block may have -/
def Pick (ys : List (List (List UInt8))) (left : List (List UInt8)) : Prop := ∀ i (h : i < left.length) (h' : i < ys.length), ∃ k, ∃ hk : k < (ys[i]).length, left[i] = (ys[i])[k]
theorem Pick.nil (ys : List (List (List UInt8))) : Pick ys [] := fun i h => absurd h (Nat.not_lt_zero _)
theorem Pick.push {ys : List (List (List UInt8))} {left : List (List UInt8)} {z : List UInt8} (h : Pick ys left) (hz : ∀ h' : left.length < ys.length, ∃ k, ∃ hk : k < (ys[left.length]).length, z = (ys[left.length])[k]) : Pick ys (left ++ [z]) := by
  intro i hi h'
  by_cases hl : i < left.length
  · rw [List.getElem_append_left hl]
    exact h i hl h'
  · have he : i = left.length := by rw [List.length_append] at hi; simp at hi; omega
    subst he
    rw [List.getElem_append_right (Nat.le_refl _)]
    simp only [Nat.sub_self, List.getElem_cons_zero]
    exact hz h'
/-- the values of a list lie in old memory -/
def Vals (w : World) (S : Nat → Prop) (left : List (List UInt8)) (vals : List Value) : Prop := vals.length = left.length ∧ ∀ i (h : i < left.length) (h' : i < vals.length), RdIn w S (.sl .byte) left[i] [vals[i]]
theorem Vals.nil (w : World) (S : Nat → Prop) : Vals w S [] [] := ⟨rfl, fun i h => absurd h (Nat.not_lt_zero _)⟩
theorem Vals.push {w : World} {S : Nat → Prop} {left : List (List UInt8)} {vals : List Value} {z : List UInt8} {v : Value} (h : Vals w S left vals) (hz : RdIn w S (.sl .byte) z [v]) : Vals w S (left ++ [z]) (vals ++ [v]) := by
  refine ⟨by simp [h.1], fun i hi h' => ?_⟩
  by_cases hl : i < left.length
  · have hl' : i < vals.length := by rw [h.1]; exact hl
    rw [List.getElem_append_left hl, List.getElem_append_left hl']
    exact h.2 i hl hl'
  · have he : i = left.length := by rw [List.length_append] at hi; simp at hi; omega
    subst he
    have h1 : (left ++ [z])[left.length] = z := by simp
    have h2 : (vals ++ [v])[left.length] = v := by simp [← h.1]
    rw [h1, h2]
    exact hz
end Go.Proofs.Ytclbihcggjjgaaa
/- Layer 30 (model): plain laws of a crash to the values that there are. -/
namespace Go.Proofs.Ytclbihcggjjgaaa
open Go Go.RowKit
set_option linter.unusedSimpArgs false
set_option linter.unusedVariables false

theorem ones_at {left : List (List UInt8)} {i : Nat} (h : i < (ones left).length) (h' : i < left.length) : (ones left)[i] = [left[i]] := by
  simp [ones]
theorem ones_plain {x : Cfg} {ys : List (List (List UInt8))} {gs : List GoTy.T} {left : List (List UInt8)} (hp : PlainOk x ys gs) (hl : left.length = ys.length) (hk : ∀ i (h : i < left.length), (left[i]).length = 128) : PlainOk x (ones left) [] where
  cfg := hp.cfg
  len := by rw [ones_len, hl]; exact hp.len
  few := by simp
  vals := fun i h => by
    have h' : i < left.length := by rw [← ones_len]; exact h
    rw [ones_at h h']
    refine ⟨by simp, by simp, fun k hk0 => ?_⟩
    have e : k = 0 := by have : k < 1 := hk0; omega
    subst e
    exact hk i h'
  goes := fun i h => absurd h (Nat.not_lt_zero _)
end Go.Proofs.Ytclbihcggjjgaaa
/- Layer 30 (model): a plain array in memory of one's own, laid out so that it can be written: its rows lie apart. -/
namespace Go.Proofs.Ytclbihcggjjgaaa
open Go Go.RowKit
set_option linter.unusedVariables false

/-! ### what changes -/
/-- blocks of type t may have turned, no others -/
def But (t : TypeId) (w w' : World) : Prop := ∀ b, b < w.heap.size → w'.heap[b]? = w.heap[b]? ∨ ∃ cs, BoxOf w b cs t
theorem But.of_below {t : TypeId} {w w' : World} (h : Below w.heap.size w w') : But t w w' := fun b hb => .inl (h.block b hb)
theorem BoxOf.but {t t' : TypeId} {w w' : World} {b : Nat} {cs : Array Value} (h : BoxOf w b cs t') (hb : But t w w') (ht : t' ≠ t) : BoxOf w' b cs t' := by
  rcases hb b h.lt with e | ⟨ds, e⟩
  · unfold BoxOf at *
    rw [e]; exact h
  · unfold BoxOf at *
    rw [h] at e
    injection e with e
    injection e with _ e
    exact absurd e ht
theorem box_diff {w : World} {b b' : Nat} {cs ds : Array Value} {t t' : TypeId} (h : BoxOf w b cs t) (h' : BoxOf w b' ds t') (ht : t ≠ t') : b ≠ b' := by
  intro e
  subst e
  unfold BoxOf at *
  rw [h] at h'
  injection h' with e
  injection e with _ e
  exact ht e
/-! ### rows -/
/-- a row of values: its block, its place, its room -/
def RowS (w : World) (By : Nat → Prop) (lo g o c : Nat) (zs : List (List UInt8)) : Prop :=
  ∃ cur : Array Value, BoxOf w g cur 29 ∧ zs.length ≤ c ∧ c ≤ maxLen ∧ o + c ≤ cur.size ∧ (lo ≤ g ∧ ¬ By g) ∧
    ∀ k (h : k < zs.length), ∃ u, cur.toList[o + k]? = some u ∧ RdIn w By (.sl .byte) zs[k] [u]
/-- the rows of a plain array -/
def MayS (w : World) (By : Nat → Prop) (lo R : Nat) (ys : List (List (List UInt8))) : Prop :=
  ∃ (cells : Array Value) (gf of cf : Nat → Nat), BoxOf w R cells 30 ∧ (lo ≤ R ∧ ¬ By R) ∧
    (∀ i (h : i < ys.length), cells.toList[i]? = some (.slice (some ⟨gf i, of i, none⟩) (ys[i]).length (cf i)) ∧ RowS w By lo (gf i) (of i) (cf i) ys[i]) ∧
    (∀ i j, i < ys.length → j < ys.length → gf i = gf j → i = j)
theorem RowS.frame {w w' : World} {By By' : Nat → Prop} {lo g o c : Nat} {zs : List (List UInt8)} (h : RowS w By lo g o c zs) (hg : w'.heap[g]? = w.heap[g]?) (hb : ∀ b, By b → w'.heap[b]? = w.heap[b]?) (hB : ∀ b, By b → By' b) (hn : ¬ By' g) : RowS w' By' lo g o c zs := by
  obtain ⟨cur, h1, h2, h3, h4, h5, h6⟩ := h
  refine ⟨cur, by unfold BoxOf at *; rw [hg]; exact h1, h2, h3, h4, ⟨h5.1, hn⟩, fun k hk => ?_⟩
  obtain ⟨u, h7, h8⟩ := h6 k hk
  exact ⟨u, h7, (h8.frame hb).mono hB⟩
theorem MayS.but {w w' : World} {By : Nat → Prop} {lo R : Nat} {ys : List (List (List UInt8))} {t : TypeId} (h : MayS w By lo R ys) (ht1 : 30 ≠ t) (ht2 : 29 ≠ t) (hb : But t w w') (hB : ∀ b, By b → w'.heap[b]? = w.heap[b]?) : MayS w' By lo R ys := by
  obtain ⟨cells, gf, of, cf, h1, h2, h3, h4⟩ := h
  refine ⟨cells, gf, of, cf, h1.but hb ht1, h2, fun i hi => ⟨(h3 i hi).1, ?_⟩, h4⟩
  obtain ⟨cur, k1, k2, k3, k4, k5, k6⟩ := (h3 i hi).2
  refine ⟨cur, k1.but hb ht2, k2, k3, k4, k5, fun k hk => ?_⟩
  obtain ⟨u, h7, h8⟩ := k6 k hk
  exact ⟨u, h7, h8.frame hB⟩
/-- one row is laid open, and laid anew -/
theorem MayS.row {w : World} {By : Nat → Prop} {lo R : Nat} {ys : List (List (List UInt8))} (h : MayS w By lo R ys) {k : Nat} (hk : k < ys.length) :
    ∃ (cells : Array Value) (g o c : Nat), BoxOf w R cells 30 ∧ (lo ≤ R ∧ ¬ By R) ∧ cells.toList[k]? = some (.slice (some ⟨g, o, none⟩) (ys[k]).length c) ∧ RowS w By lo g o c ys[k] ∧
      ∀ (w' : World) (By' : Nat → Prop) (g' o' c' : Nat) (zs : List (List UInt8)), (∀ b, b < w.heap.size → b ≠ R → b ≠ g → w'.heap[b]? = w.heap[b]?) →
        BoxOf w' R (cells.setIfInBounds k (.slice (some ⟨g', o', none⟩) zs.length c')) 30 → RowS w' By' lo g' o' c' zs → (g' = g ∨ w.heap.size ≤ g') →
        (∀ b, By b → b < w.heap.size ∧ By' b) → (∀ b, b < w.heap.size → By' b → By b) → MayS w' By' lo R (ys.set k zs) := by
  obtain ⟨cells, gf, of, cf, h1, h2, h3, h4⟩ := h
  refine ⟨cells, gf k, of k, cf k, h1, h2, (h3 k hk).1, (h3 k hk).2, ?_⟩
  intro w' By' g' o' c' zs hf hR hrow hg hB hB'
  have hlt : ∀ i, i < ys.length → gf i < w.heap.size := fun i hi => by
    obtain ⟨cur, k1, _⟩ := (h3 i hi).2
    exact k1.lt
  have hnB : ∀ i, i < ys.length → ¬ By (gf i) := fun i hi => by
    obtain ⟨cur, _, _, _, _, k5, _⟩ := (h3 i hi).2
    exact k5.2
  have hkc : k < cells.toList.length := (List.getElem?_eq_some_iff.1 (h3 k hk).1).1
  refine ⟨_, fun i => if i = k then g' else gf i, fun i => if i = k then o' else of i, fun i => if i = k then c' else cf i, hR, ⟨h2.1, fun h => h2.2 (hB' R h1.lt h)⟩, fun i hi => ?_, fun i j hi hj e => ?_⟩
  · rw [List.length_set] at hi
    by_cases e : i = k
    · subst e
      simp only [if_true, List.getElem_set_self]
      exact ⟨by rw [Array.toList_setIfInBounds, List.getElem?_set_self hkc], hrow⟩
    · simp only [if_neg e, List.getElem_set_ne (fun h => e h.symm)]
      refine ⟨?_, ?_⟩
      · rw [Array.toList_setIfInBounds, List.getElem?_set_ne (fun h => e h.symm)]
        exact (h3 i hi).1
      · have hne : gf i ≠ gf k := fun h => e (h4 i k hi hk h)
        have hneR : gf i ≠ R := by
          obtain ⟨cur, k1, _⟩ := (h3 i hi).2
          exact box_diff k1 h1 (by decide)
        refine (h3 i hi).2.frame (hf _ (hlt i hi) hneR hne) (fun b hb => hf b (hB b hb).1 (fun e => h2.2 (e ▸ hb)) (fun e => hnB k hk (e ▸ hb))) (fun b hb => (hB b hb).2) (fun h => hnB i hi (hB' _ (hlt i hi) h))
  · rw [List.length_set] at hi hj
    by_cases ei : i = k <;> by_cases ej : j = k
    · rw [ei, ej]
    · subst ei
      simp only [if_true, if_neg ej] at e
      rcases hg with hg | hg
      · exact h4 i j hi hj (hg.symm.trans e)
      · have := hlt j hj; omega
    · subst ej
      simp only [if_true, if_neg ei] at e
      rcases hg with hg | hg
      · exact h4 i j hi hj (e.trans hg)
      · have := hlt i hi; omega
    · simp only [if_neg ei, if_neg ej] at e
      exact h4 i j hi hj e
theorem MayS.lt {w : World} {By : Nat → Prop} {lo R : Nat} {ys : List (List (List UInt8))} (h : MayS w By lo R ys) : R < w.heap.size := by
  obtain ⟨cells, gf, of, cf, h1, h2, h3, h4⟩ := h
  exact h1.lt
theorem RowS.lt {w : World} {By : Nat → Prop} {lo g o c : Nat} {zs : List (List UInt8)} (h : RowS w By lo g o c zs) : g < w.heap.size := by
  obtain ⟨cur, h1, _⟩ := h
  exact h1.lt
/-- such a plain array reads -/
theorem RowS.rdin {w : World} {By : Nat → Prop} {lo g o c : Nat} {zs : List (List UInt8)} (h : RowS w By lo g o c zs) (hB : ∀ b, By b → NewB lo w b) (hz : zs.length ≤ 1000) : RdIn w (NewB lo w) (.sl (.sl .byte)) zs [.slice (some ⟨g, o, none⟩) zs.length c] := by
  obtain ⟨cur, h1, h2, h3, h4, h5, h6⟩ := h
  refine rdin_sl.2 ⟨_, _, rfl, h2, h3, by show zs.length * 24 ≤ _; omega, .inr ⟨g, o, rfl, ⟨h5.1, h1.lt, _, _, h1⟩, fun i hi => ?_⟩⟩
  obtain ⟨u, h7, h8⟩ := h6 i hi
  refine ⟨[u], fun j hj => ?_, h8.mono hB⟩
  have hj0 : j = 0 := by have : j < 1 := hj; omega
  subst hj0
  show w.cell? ⟨g, o + i * 1 + 0, none⟩ = some u
  rw [Nat.mul_one, Nat.add_zero, h1.cell]
  exact h7
theorem MayS.rdin {w : World} {By : Nat → Prop} {lo R : Nat} {ys : List (List (List UInt8))} (h : MayS w By lo R ys) {cR : Nat} (hc : ys.length ≤ cR ∧ cR ≤ maxLen) (hl : ys.length ≤ 1000) (hB : ∀ b, By b → NewB lo w b) (hz : ∀ i (hi : i < ys.length), (ys[i]).length ≤ 1000) : RdIn w (NewB lo w) (.sl (.sl (.sl .byte))) ys [.slice (some ⟨R, 0, none⟩) ys.length cR] := by
  obtain ⟨cells, gf, of, cf, h1, h2, h3, h4⟩ := h
  refine rdin_sl.2 ⟨_, _, rfl, hc.1, hc.2, by show ys.length * 24 ≤ _; omega, .inr ⟨R, 0, rfl, ⟨h2.1, h1.lt, _, _, h1⟩, fun i hi => ?_⟩⟩
  refine ⟨_, fun j hj => ?_, (h3 i hi).2.rdin hB (hz i hi)⟩
  have hj0 : j = 0 := by have : j < 1 := hj; omega
  subst hj0
  show w.cell? ⟨R, 0 + i * 1 + 0, none⟩ = some _
  rw [Nat.mul_one, Nat.add_zero, Nat.zero_add, h1.cell]
  exact (h3 i hi).1

/-! ### requests -/
/-- marks: their block -/
def MkS (w : World) (By : Nat → Prop) (lo : Nat) (v : Value) (b : Nat) (ms : List Int) : Prop :=
  (∀ x ∈ ms, IsInt x) ∧ ∃ A c, v = .slice A ms.length c ∧ ms.length ≤ c ∧ c ≤ maxLen ∧ ms.length * 8 ≤ 140737488355328 ∧
    (ms = [] ∨ ∃ o cur, A = some ⟨b, o, none⟩ ∧ BoxOf w b cur 3 ∧ (lo ≤ b ∧ ¬ By b) ∧ ∀ q (h : q < ms.length), cur.toList[o + q]? = some (.int .i64 ms[q]))
/-- a request's cells -/
def GoE (w : World) (By : Nat → Prop) (lo : Nat) (at' : Nat → Option Value) (b : Nat) (g : GoTy.T) : Prop :=
  ∃ vd vm, (at' 0 = some (.int .i64 (nuOf g)) ∧ at' 1 = some (.int .u8 ((kiOf g).toNat : Int)) ∧ at' 2 = some (.int .i64 (atOf g)) ∧ at' 3 = some (.int .i64 (manyOf g)) ∧ at' 4 = some vd ∧ at' 5 = some vm) ∧
    (IsInt (nuOf g) ∧ IsInt (atOf g) ∧ IsInt (manyOf g)) ∧ RdIn w By (.sl .byte) (datOf g) [vd] ∧ MkS w By lo vm b (mksOf g)
def GoS (w : World) (By : Nat → Prop) (lo : Nat) (B : Option Addr) (d : Nat) (gs : List GoTy.T) : Prop :=
  gs = [] ∨ ∃ (G o : Nat) (cells : Array Value) (bf : Nat → Nat), B = some ⟨G, o, none⟩ ∧ BoxOf w G cells 64 ∧ (lo ≤ G ∧ ¬ By G ∧ o + d * 6 ≤ cells.size) ∧
    (∀ j (h : j < gs.length), GoE w By lo (fun q => cells.toList[o + j * 6 + q]?) (bf j) gs[j]) ∧
    (∀ i j (hi : i < gs.length) (hj : j < gs.length), mksOf gs[i] ≠ [] → mksOf gs[j] ≠ [] → bf i = bf j → i = j)
theorem MkS.frame {w w' : World} {By By' : Nat → Prop} {lo : Nat} {v : Value} {b : Nat} {ms : List Int} (h : MkS w By lo v b ms) (hf : ms ≠ [] → w'.heap[b]? = w.heap[b]?) (hB : b < w.heap.size → By' b → By b) : MkS w' By' lo v b ms := by
  obtain ⟨h0, A, c, h1, h2, h3, h4, h5⟩ := h
  refine ⟨h0, A, c, h1, h2, h3, h4, ?_⟩
  rcases h5 with h5 | ⟨o, cur, h6, h7, h8, h9⟩
  · exact .inl h5
  · by_cases he : ms = []
    · exact .inl he
    · exact .inr ⟨o, cur, h6, by have := hf he; unfold BoxOf at *; rw [this]; exact h7, ⟨h8.1, fun h => h8.2 (hB h7.lt h)⟩, h9⟩
theorem GoE.frame {w w' : World} {By By' : Nat → Prop} {lo : Nat} {at' at2 : Nat → Option Value} {b : Nat} {g : GoTy.T} (h : GoE w By lo at' b g) (ha : ∀ q, q < 6 → at2 q = at' q) (hf : mksOf g ≠ [] → w'.heap[b]? = w.heap[b]?) (hb : ∀ b, By b → w'.heap[b]? = w.heap[b]?) (hB : ∀ b, By b → By' b) (hB' : ∀ b, b < w.heap.size → By' b → By b) : GoE w' By' lo at2 b g := by
  obtain ⟨vd, vm, ⟨h0, h1, h2, h3, h4, h5⟩, h6, h7, h8⟩ := h
  exact ⟨vd, vm, ⟨by rw [ha 0 (by decide)]; exact h0, by rw [ha 1 (by decide)]; exact h1, by rw [ha 2 (by decide)]; exact h2, by rw [ha 3 (by decide)]; exact h3, by rw [ha 4 (by decide)]; exact h4, by rw [ha 5 (by decide)]; exact h5⟩, h6, (h7.frame hb).mono hB, h8.frame hf (hB' b)⟩
/-- what else may turn: blocks of another type; bytes may come -/
theorem GoS.but {w w' : World} {By By' : Nat → Prop} {lo : Nat} {B : Option Addr} {d : Nat} {gs : List GoTy.T} {t : TypeId} (h : GoS w By lo B d gs) (ht1 : 64 ≠ t) (ht2 : 3 ≠ t) (hb : But t w w') (hB : ∀ b, By b → w'.heap[b]? = w.heap[b]?) (hBB : ∀ b, By b → By' b) (hBn : ∀ b, b < w.heap.size → By' b → By b) : GoS w' By' lo B d gs := by
  rcases h with h | ⟨G, o, cells, bf, h1, h2, h3, h4, h5⟩
  · exact .inl h
  · refine .inr ⟨G, o, cells, bf, h1, h2.but hb ht1, ⟨h3.1, fun h => h3.2.1 (hBn G h2.lt h), h3.2.2⟩, fun j hj => ?_, h5⟩
    obtain ⟨vd, vm, k0, k1, k2, k3⟩ := h4 j hj
    refine ⟨vd, vm, k0, k1, (k2.frame hB).mono hBB, ?_⟩
    obtain ⟨m0, A, c, m1, m2, m3, m4, m5⟩ := k3
    refine ⟨m0, A, c, m1, m2, m3, m4, ?_⟩
    rcases m5 with m5 | ⟨o', cur, m6, m7, m8, m9⟩
    · exact .inl m5
    · exact .inr ⟨o', cur, m6, m7.but hb ht2, ⟨m8.1, fun h => m8.2 (hBn _ m7.lt h)⟩, m9⟩
theorem MayS.mono {w w' : World} {By By' : Nat → Prop} {lo R : Nat} {ys : List (List (List UInt8))} (h : MayS w By lo R ys) (hb : Below w.heap.size w w') (hlt : ∀ b, By b → b < w.heap.size) (hBB : ∀ b, By b → By' b) (hBn : ∀ b, b < w.heap.size → By' b → By b) : MayS w' By' lo R ys := by
  obtain ⟨cells, gf, of, cf, h1, h2, h3, h4⟩ := h
  refine ⟨cells, gf, of, cf, h1.next hb, ⟨h2.1, fun h => h2.2 (hBn _ h1.lt h)⟩, fun i hi => ⟨(h3 i hi).1, ?_⟩, h4⟩
  have hl := (h3 i hi).2.lt
  refine (h3 i hi).2.frame (hb.block _ hl) (fun b hb' => hb.block b (hlt b hb')) hBB (fun h => ?_)
  obtain ⟨cur, _, _, _, _, k5, _⟩ := (h3 i hi).2
  exact k5.2 (hBn _ hl h)
theorem GoS.mono {w w' : World} {By By' : Nat → Prop} {lo : Nat} {B : Option Addr} {d : Nat} {gs : List GoTy.T} (h : GoS w By lo B d gs) (hb : Below w.heap.size w w') (hlt : ∀ b, By b → b < w.heap.size) (hBB : ∀ b, By b → By' b) (hBn : ∀ b, b < w.heap.size → By' b → By b) : GoS w' By' lo B d gs :=
  h.but (t := 29) (by decide) (by decide) (But.of_below hb) (fun b hb' => hb.block b (hlt b hb')) hBB hBn
theorem MkS.rdin {w : World} {By : Nat → Prop} {lo : Nat} {v : Value} {b : Nat} {ms : List Int} (h : MkS w By lo v b ms) : RdIn w (NewB lo w) (.sl .int) ms [v] := by
  obtain ⟨h0, A, c, rfl, h2, h3, h4, h5⟩ := h
  refine rdin_sl.2 ⟨_, _, rfl, h2, h3, h4, ?_⟩
  rcases h5 with rfl | ⟨o, cur, h6, h7, h8, h9⟩
  · exact .inl rfl
  · refine .inr ⟨b, o, h6, ⟨h8.1, h7.lt, _, _, h7⟩, fun i hi => ⟨[.int .i64 (ms[i]'hi)], fun j hj => ?_, rdin_int.2 ⟨rfl, h0 _ (List.getElem_mem hi)⟩⟩⟩
    have hj0 : j = 0 := by have : j < 1 := hj; omega
    subst hj0
    show w.cell? ⟨b, o + i * 1 + 0, none⟩ = _
    rw [Nat.mul_one, Nat.add_zero, h7.cell]
    exact h9 i hi
theorem going_mk' {w : World} {S : Nat → Prop} {g : GoTy.T} {v u : Value} (h0 : IsInt (nuOf g)) (h1 : IsInt (atOf g)) (h2 : IsInt (manyOf g)) (h : RdIn w S (.sl .byte) (datOf g) [v]) (h3 : RdIn w S (.sl .int) (mksOf g) [u]) : RdIn w S GoTy g [.int .i64 (nuOf g), .int .u8 ((kiOf g).toNat : Int), .int .i64 (atOf g), .int .i64 (manyOf g), v, u] := by
  obtain ⟨nu, ⟨ki, a, y, bs, x⟩, ms, z⟩ := g
  exact going_mk h0 h1 h2 h h3
theorem GoS.rdin {w : World} {By : Nat → Prop} {lo : Nat} {B : Option Addr} {gs : List GoTy.T} {d : Nat} (h : GoS w By lo B d gs) (hc : gs.length ≤ d ∧ d ≤ maxLen) (hl : gs.length ≤ 1000) (hB : ∀ b, By b → NewB lo w b) : RdIn w (NewB lo w) (.sl GoTy) gs [.slice B gs.length d] := by
  refine rdin_sl.2 ⟨_, _, rfl, hc.1, hc.2, by show gs.length * 80 ≤ _; omega, ?_⟩
  rcases h with h | ⟨G, o, cells, bf, h1, h2, h3, h4, h5⟩
  · exact .inl h
  · refine .inr ⟨G, o, h1, ⟨h3.1, h2.lt, _, _, h2⟩, fun j hj => ?_⟩
    obtain ⟨vd, vm, ⟨k0, k1, k2, k3, k4, k5⟩, ⟨i0, i1, i2⟩, k7, k8⟩ := h4 j hj
    refine ⟨[.int .i64 (nuOf (gs[j]'hj)), .int .u8 ((kiOf (gs[j]'hj)).toNat : Int), .int .i64 (atOf (gs[j]'hj)), .int .i64 (manyOf (gs[j]'hj)), vd, vm], fun q hq => ?_, ?_⟩
    · have hq6 : q < 6 := hq
      show w.cell? ⟨G, o + j * 6 + q, none⟩ = _
      rw [h2.cell]
      have : q = 0 ∨ q = 1 ∨ q = 2 ∨ q = 3 ∨ q = 4 ∨ q = 5 := by omega
      rcases this with rfl | rfl | rfl | rfl | rfl | rfl
      · exact k0
      · exact k1
      · exact k2
      · exact k3
      · exact k4
      · exact k5
    · exact going_mk' i0 i1 i2 (k7.mono hB) k8.rdin
end Go.Proofs.Ytclbihcggjjgaaa
/- Layer 30 (model): slices.Delete over rows and over requests. -/
namespace Go.Proofs.Ytclbihcggjjgaaa
open Go Go.RowKit
set_option linter.unusedVariables false
set_option linter.unusedSimpArgs false

theorem box_setCells {g : Nat} {t : TypeId} : ∀ (vs : List Value) (o : Nat) (w : World) (cur : Array Value), BoxOf w g cur t → o + vs.length ≤ cur.size →
    ∃ cur' : Array Value, BoxOf (w.setCells g o vs) g cur' t ∧ cur'.size = cur.size ∧ ∀ q, cur'.toList[q]? = if o ≤ q ∧ q < o + vs.length then vs[q - o]? else cur.toList[q]?
  | [], o, w, cur, h, _ => ⟨cur, h, rfl, fun q => by rw [if_neg (by simp; try omega)]⟩
  | v :: r, o, w, cur, h, hl => by
    have hl' : o + (r.length + 1) ≤ cur.size := hl
    obtain ⟨cur', h1, h2, h3⟩ := box_setCells r (o + 1) (w.setCell ⟨g, o, none⟩ v) (cur.setIfInBounds o v) (mbox_self h o v) (by rw [Array.size_setIfInBounds]; omega)
    refine ⟨cur', h1, by rw [h2, Array.size_setIfInBounds], fun q => ?_⟩
    rw [h3, List.length_cons, Array.toList_setIfInBounds]
    by_cases h4 : o + 1 ≤ q ∧ q < o + 1 + r.length
    · rw [if_pos h4, if_pos (by omega), show q - o = (q - (o + 1)) + 1 by omega, List.getElem?_cons_succ]
    · rw [if_neg h4]
      by_cases h5 : q = o
      · subst h5
        rw [if_pos (by omega), Nat.sub_self, List.getElem?_cons_zero, List.getElem?_set_self (by rw [Array.length_toList]; omega)]
      · rw [if_neg (by omega), List.getElem?_set_ne (fun e => h5 e.symm)]
theorem grown_setCells (g : Nat) : ∀ (vs : List Value) (o : Nat) (w : World), w.grownBy (w.setCells g o vs) (some g)
  | [], o, w => World.grownBy.refl w _
  | v :: r, o, w => by
    have h := grown_setCells g r (o + 1) (w.setCell ⟨g, o, none⟩ v)
    refine ⟨h.os, h.tape, h.output, by have := h.size; rwa [msize] at this, fun k hk hne => ?_⟩
    refine (h.block k (by rw [msize]; exact hk) hne).trans (Below.heap_setCell _ _ _ _ (fun e => hne (by rw [e])))
theorem run_clear_any {P : Program} (w : World) (t e ty : TypeId) (z : Value) (ht : P.underlying t = some (.slice e)) (hv : ∀ w, (zeroValue e).run P w = .ok z w) (sz : Nat) (hz : z.cells.size = sz) (h1 : ∀ i, i < z.cells.size → (z.cells[i]!).oneCell' = true) (b o n c : Nat) (hn : 0 < n)
    (hc : ∀ j, j < n * sz → (w.cell? ⟨b, o + j, none⟩).isSome = true) (hf : ∀ j, j < n * sz → w.frozen? ⟨b, o + j, none⟩ = false) :
    (Builtin.clear_ #[t] ty #[.slice (some ⟨b, o, none⟩) n c]).run P w = .ok (.tuple #[]) (w.setCells b o (Builtin.zeroCells z.cells n).toList) := by
  have hl : (Builtin.zeroCells z.cells n).toList.length = n * sz := by rw [Array.length_toList, size_zeroCells, hz]
  have hst := run_storeCells_cells (P := P) b o (Builtin.zeroCells z.cells n).toList 0 w (by rw [hl]; simpa using hc) (by rw [hl]; simpa using hf) (by
    intro v hv'
    unfold Builtin.zeroCells at hv'
    simp only [Array.toList_map, List.mem_map] at hv'
    obtain ⟨i, hi, rfl⟩ := hv'
    refine h1 _ (Nat.mod_lt _ ?_)
    rw [Array.mem_toList_iff, Array.mem_range] at hi
    exact Nat.pos_of_ne_zero fun e => by rw [e, Nat.mul_zero] at hi; omega)
  simp only [Nat.add_zero] at hst
  obtain ⟨m, rfl⟩ : ∃ m, n = m + 1 := ⟨n - 1, by omega⟩
  simp [Builtin.clear_, run_underlying ht, hv, hst]
/-- what Delete does to a row of n elements -/
def DelIs (g o sz n i j : Nat) (cur : Array Value) (t : TypeId) (w w' : World) : Prop :=
  w.grownBy w' (some g) ∧ ∃ cur' : Array Value, BoxOf w' g cur' t ∧ cur'.size = cur.size ∧ ∀ q, q < (n - (j - i)) * sz → cur'.toList[o + q]? = cur.toList[o + (if q < i * sz then q else q + (j - i) * sz)]?

set_option maxHeartbeats 4000000 in
set_option maxRecDepth 1000000 in
theorem delL_any (g o n c i j : Nat) (cur : Array Value) (w : World) (hB : BoxOf w g cur 29) (hn : n ≤ c) (hm : c ≤ maxLen) (hoc : o + c * 1 ≤ cur.size) (hij : i ≤ j) (hj : j ≤ n) (hone : ∀ q, q < n * 1 → ∃ u, cur.toList[o + q]? = some u ∧ u.oneCell' = true) :
    Calls Try.prog 88 #[.slice (some ⟨g, o, none⟩) n c, .int .i64 (i : Int), .int .i64 (j : Int)] w fun e w' => e = .returned (.slice (some ⟨g, o, none⟩) (n - (j - i)) c) ∧ DelIs g o 1 n i j cur 29 w w' := by
  by_cases heq : i = j
  · subst heq
    have hi : i ≤ n := hj
    have h0 : Calls Try.prog 88 #[.slice (some ⟨g, o, none⟩) n c, .int .i64 (i : Int), .int .i64 (i : Int)] w fun e w' => e = .returned (.slice (some ⟨g, o, none⟩) n c) ∧ w' = w := by
      clear hB hone
      have hc9 : i ≤ c := by omega
      have hm9 : c ≤ 9223372036854775807 := hm
      go_enter Try.func88, Try.ntmps88
      go_wp2
      all_goals (go_ret; exact ⟨rfl, rfl⟩)
    refine h0.mono ?_
    rintro e w' ⟨rfl, rfl⟩
    exact ⟨by rw [Nat.sub_self, Nat.sub_zero], World.grownBy.refl _ _, cur, hB, rfl, fun q hq => by
      have e1 : (if q < i * 1 then q else q + (i - i) * 1) = q := by rw [Nat.sub_self]; simp
      rw [e1]⟩
  · have hlt : i < j := by omega
    obtain ⟨news, hnews⟩ : ∃ news, news = (cur.toList.drop (o + j * 1)).take ((n - j) * 1) := ⟨_, rfl⟩
    have hjn : j * 1 + (n - j) * 1 = n * 1 := by rw [← Nat.add_mul]; congr 1; omega
    have hnc : n * 1 ≤ c * 1 := Nat.mul_le_mul_right _ hn
    have hlen : news.length = (n - j) * 1 := by rw [hnews, List.length_take, List.length_drop, Array.length_toList]; omega
    have hget : ∀ t, t < (n - j) * 1 → news[t]? = cur.toList[o + j * 1 + t]? := by
      intro t ht
      rw [hnews, List.getElem?_take, if_pos ht, List.getElem?_drop]
    obtain ⟨A, hA, hsrc⟩ : ∃ A : Addr, (if c = j then some (⟨g, o, none⟩ : Addr) else some ⟨g, o + j * 1, none⟩) = some A ∧ Hid (∀ t u, news[t]? = some u → w.drew.cell? (A.add t) = some u) := by
      by_cases h : c = j
      · refine ⟨⟨g, o, none⟩, by simp [h], fun t u hu => ?_⟩
        have h0 : news.length = 0 := by rw [hlen, show n - j = 0 by omega, Nat.zero_mul]
        rw [List.length_eq_zero_iff.1 h0] at hu
        simp at hu
      · refine ⟨⟨g, o + j * 1, none⟩, by simp [h], fun t u hu => ?_⟩
        have ht : t < (n - j) * 1 := by
          have := (List.getElem?_eq_some_iff.1 hu).1
          rwa [hlen] at this
        rw [hget t ht] at hu
        rw [Addr.add_lit]
        exact (hB.drew.cell _).trans hu
    have s1 : Hid (news.length = (n - j) * 1) := hlen
    have s2 : Hid (∀ u ∈ news, u.oneCell' = true) := by
      intro u hu
      obtain ⟨t, ht, rfl⟩ := List.getElem_of_mem hu
      have ht' : t < (n - j) * 1 := by rw [← hlen]; exact ht
      have h1 := hget t ht'
      rw [List.getElem?_eq_getElem ht] at h1
      obtain ⟨u, hu1, hu2⟩ := hone (j * 1 + t) (by omega)
      rw [← Nat.add_assoc] at hu1
      rw [hu1] at h1
      rw [Option.some.inj h1]
      exact hu2
    have hij5 : i * 1 + (n - j) * 1 ≤ n * 1 := by rw [← Nat.add_mul]; exact Nat.mul_le_mul_right _ (by omega)
    have s3 : Hid (∀ t, t < news.length → (w.drew.cell? ⟨g, o + i * 1 + t, none⟩).isSome = true ∧ w.drew.frozen? ⟨g, o + i * 1 + t, none⟩ = false) := by
      intro t ht
      rw [hlen] at ht
      refine ⟨?_, hB.drew.free _⟩
      rw [hB.drew.cell, List.getElem?_eq_getElem (by rw [Array.length_toList]; omega)]
      rfl
    obtain ⟨W1, hW1⟩ : ∃ W1, W1 = w.drew.setCells g (o + i * 1) news := ⟨_, rfl⟩
    obtain ⟨cur1, b1, b2, b3⟩ := box_setCells news (o + i * 1) w.drew cur hB.drew (by omega)
    have g1 := grown_setCells g news (o + i * 1) w.drew
    rw [← hW1] at b1 g1
    obtain ⟨zs, hzs⟩ : ∃ zs, zs = (Builtin.zeroCells (Value.slice none 0 0).cells (n - (i + (n - j)))).toList := ⟨_, rfl⟩
    have hzl : zs.length = (j - i) * 1 := by
      rw [hzs, Array.length_toList, size_zeroCells, show (Value.slice none 0 0).cells.size = 1 from rfl, show n - (i + (n - j)) = j - i by omega]
    have e5 : o + (i + (n - j)) * 1 = o + i * 1 + (n - j) * 1 := by rw [Nat.add_mul, Nat.add_assoc]
    have hcz : i * 1 + (n - j) * 1 + (j - i) * 1 = n * 1 := by rw [← Nat.add_mul, ← Nat.add_mul]; congr 1; omega
    obtain ⟨cur2, d1, d2, d3⟩ := box_setCells zs (o + (i + (n - j)) * 1) W1 cur1 b1 (by omega)
    have g2 := grown_setCells g zs (o + (i + (n - j)) * 1) W1
    have HX : Hid (DelIs g o 1 n i j cur 29 w (W1.setCells g (o + (i + (n - j)) * 1) zs)) := by
      refine ⟨⟨g2.os.trans g1.os, g2.tape.trans g1.tape, g2.output.trans g1.output, Nat.le_trans g1.size g2.size, fun k hk hne => (g2.block k (Nat.lt_of_lt_of_le hk g1.size) hne).trans (g1.block k hk hne)⟩, cur2, d1, by rw [d2, b2], fun q hq => ?_⟩
      have hq' : q < i * 1 + (n - j) * 1 := by rw [show n - (j - i) = i + (n - j) by omega, Nat.add_mul] at hq; exact hq
      rw [d3, if_neg (by omega), b3]
      by_cases h : q < i * 1
      · rw [if_neg (by omega), if_pos h]
      · rw [if_pos (by omega), if_neg h, show o + q - (o + i * 1) = q - i * 1 by omega, hget _ (by omega)]
        congr 1
        have : (j - i) * 1 = j * 1 - i * 1 := Nat.sub_mul _ _ _
        have : i * 1 ≤ j * 1 := Nat.mul_le_mul_right _ hij
        omega
    have hzv : ∀ w, (zeroValue 29).run Try.prog w = .ok (Value.slice none 0 0) w := fun w => by rfl
    have hcl : ∀ ty, (Builtin.clear_ #[30] ty #[.slice (some ⟨g, o + (i + (n - j)) * 1, none⟩) (n - (i + (n - j))) (c - (i + (n - j)))]).run Try.prog W1 = .ok (.tuple #[]) (W1.setCells g (o + (i + (n - j)) * 1) zs) := by
      intro ty
      rw [hzs]
      exact run_clear_any W1 _ _ ty _ Try.underlying30 hzv 1 rfl (by decide) g (o + (i + (n - j)) * 1) _ _ (by omega) (fun t ht => by
        rw [b1.cell, List.getElem?_eq_getElem (by rw [Array.length_toList, b2]; rw [show n - (i + (n - j)) = j - i by omega] at ht; omega)]
        rfl) (fun t ht => b1.free _)
    obtain ⟨i0, hi0, hi1, hi2, hi3⟩ := minfo_bytes
    try simp only [Nat.mul_one] at hcl HX
    have hW : Hid (W1 = w.drew.setCells g (o + i * 1) news) := hW1
    have hic : i ≤ c := by omega
    have hjc : j ≤ c := by omega
    have hm9 : c ≤ 9223372036854775807 := hm
    clear hW1 hB hget hnews hlen hone b1 b2 b3 g1 g2 d1 d2 d3 hzl hzs e5 hcz hzv hjn hnc hij5
    go_enter Try.func88, Try.ntmps88
    go_wp2_with fail
    go_region_law (refine step_append_room rfl (.tmp 22) (.tmp 25) 30 rfl 29 i0 1 Try.underlying30 hi0 hi2 g o i c (by simp [Act.eval, Act.put]) A (n - j) (c - j) news (by simp [Act.eval, Act.put] <;> simpa using hA) s1.out hsrc.out s2.out (by omega) s3.out ?_; rw [← hW.out])
    go_wp2
    all_goals (go_ret; exact ⟨by rw [show n - (j - i) = i + (n - j) by omega]; rfl, HX.out⟩)
set_option maxHeartbeats 4000000 in
set_option maxRecDepth 1000000 in
theorem delG_any (g o n c i j : Nat) (cur : Array Value) (w : World) (hB : BoxOf w g cur 64) (hn : n ≤ c) (hm : c ≤ maxLen) (hoc : o + c * 6 ≤ cur.size) (hij : i ≤ j) (hj : j ≤ n) (hone : ∀ q, q < n * 6 → ∃ u, cur.toList[o + q]? = some u ∧ u.oneCell' = true) :
    Calls Try.prog 58 #[.slice (some ⟨g, o, none⟩) n c, .int .i64 (i : Int), .int .i64 (j : Int)] w fun e w' => e = .returned (.slice (some ⟨g, o, none⟩) (n - (j - i)) c) ∧ DelIs g o 6 n i j cur 64 w w' := by
  by_cases heq : i = j
  · subst heq
    have hi : i ≤ n := hj
    have h0 : Calls Try.prog 58 #[.slice (some ⟨g, o, none⟩) n c, .int .i64 (i : Int), .int .i64 (i : Int)] w fun e w' => e = .returned (.slice (some ⟨g, o, none⟩) n c) ∧ w' = w := by
      clear hB hone
      have hc9 : i ≤ c := by omega
      have hm9 : c ≤ 9223372036854775807 := hm
      go_enter Try.func58, Try.ntmps58
      go_wp2
      all_goals (go_ret; exact ⟨rfl, rfl⟩)
    refine h0.mono ?_
    rintro e w' ⟨rfl, rfl⟩
    exact ⟨by rw [Nat.sub_self, Nat.sub_zero], World.grownBy.refl _ _, cur, hB, rfl, fun q hq => by
      have e1 : (if q < i * 6 then q else q + (i - i) * 6) = q := by rw [Nat.sub_self]; simp
      rw [e1]⟩
  · have hlt : i < j := by omega
    obtain ⟨news, hnews⟩ : ∃ news, news = (cur.toList.drop (o + j * 6)).take ((n - j) * 6) := ⟨_, rfl⟩
    have hjn : j * 6 + (n - j) * 6 = n * 6 := by rw [← Nat.add_mul]; congr 1; omega
    have hnc : n * 6 ≤ c * 6 := Nat.mul_le_mul_right _ hn
    have hlen : news.length = (n - j) * 6 := by rw [hnews, List.length_take, List.length_drop, Array.length_toList]; omega
    have hget : ∀ t, t < (n - j) * 6 → news[t]? = cur.toList[o + j * 6 + t]? := by
      intro t ht
      rw [hnews, List.getElem?_take, if_pos ht, List.getElem?_drop]
    obtain ⟨A, hA, hsrc⟩ : ∃ A : Addr, (if c = j then some (⟨g, o, none⟩ : Addr) else some ⟨g, o + j * 6, none⟩) = some A ∧ Hid (∀ t u, news[t]? = some u → w.drew.cell? (A.add t) = some u) := by
      by_cases h : c = j
      · refine ⟨⟨g, o, none⟩, by simp [h], fun t u hu => ?_⟩
        have h0 : news.length = 0 := by rw [hlen, show n - j = 0 by omega, Nat.zero_mul]
        rw [List.length_eq_zero_iff.1 h0] at hu
        simp at hu
      · refine ⟨⟨g, o + j * 6, none⟩, by simp [h], fun t u hu => ?_⟩
        have ht : t < (n - j) * 6 := by
          have := (List.getElem?_eq_some_iff.1 hu).1
          rwa [hlen] at this
        rw [hget t ht] at hu
        rw [Addr.add_lit]
        exact (hB.drew.cell _).trans hu
    have s1 : Hid (news.length = (n - j) * 6) := hlen
    have s2 : Hid (∀ u ∈ news, u.oneCell' = true) := by
      intro u hu
      obtain ⟨t, ht, rfl⟩ := List.getElem_of_mem hu
      have ht' : t < (n - j) * 6 := by rw [← hlen]; exact ht
      have h1 := hget t ht'
      rw [List.getElem?_eq_getElem ht] at h1
      obtain ⟨u, hu1, hu2⟩ := hone (j * 6 + t) (by omega)
      rw [← Nat.add_assoc] at hu1
      rw [hu1] at h1
      rw [Option.some.inj h1]
      exact hu2
    have hij5 : i * 6 + (n - j) * 6 ≤ n * 6 := by rw [← Nat.add_mul]; exact Nat.mul_le_mul_right _ (by omega)
    have s3 : Hid (∀ t, t < news.length → (w.drew.cell? ⟨g, o + i * 6 + t, none⟩).isSome = true ∧ w.drew.frozen? ⟨g, o + i * 6 + t, none⟩ = false) := by
      intro t ht
      rw [hlen] at ht
      refine ⟨?_, hB.drew.free _⟩
      rw [hB.drew.cell, List.getElem?_eq_getElem (by rw [Array.length_toList]; omega)]
      rfl
    obtain ⟨W1, hW1⟩ : ∃ W1, W1 = w.drew.setCells g (o + i * 6) news := ⟨_, rfl⟩
    obtain ⟨cur1, b1, b2, b3⟩ := box_setCells news (o + i * 6) w.drew cur hB.drew (by omega)
    have g1 := grown_setCells g news (o + i * 6) w.drew
    rw [← hW1] at b1 g1
    obtain ⟨zs, hzs⟩ : ∃ zs, zs = (Builtin.zeroCells (Value.agg #[.int .i64 0, .int .u8 0, .int .i64 0, .int .i64 0, .slice none 0 0, .slice none 0 0]).cells (n - (i + (n - j)))).toList := ⟨_, rfl⟩
    have hzl : zs.length = (j - i) * 6 := by
      rw [hzs, Array.length_toList, size_zeroCells, show (Value.agg #[.int .i64 0, .int .u8 0, .int .i64 0, .int .i64 0, .slice none 0 0, .slice none 0 0]).cells.size = 6 from rfl, show n - (i + (n - j)) = j - i by omega]
    have e5 : o + (i + (n - j)) * 6 = o + i * 6 + (n - j) * 6 := by rw [Nat.add_mul, Nat.add_assoc]
    have hcz : i * 6 + (n - j) * 6 + (j - i) * 6 = n * 6 := by rw [← Nat.add_mul, ← Nat.add_mul]; congr 1; omega
    obtain ⟨cur2, d1, d2, d3⟩ := box_setCells zs (o + (i + (n - j)) * 6) W1 cur1 b1 (by omega)
    have g2 := grown_setCells g zs (o + (i + (n - j)) * 6) W1
    have HX : Hid (DelIs g o 6 n i j cur 64 w (W1.setCells g (o + (i + (n - j)) * 6) zs)) := by
      refine ⟨⟨g2.os.trans g1.os, g2.tape.trans g1.tape, g2.output.trans g1.output, Nat.le_trans g1.size g2.size, fun k hk hne => (g2.block k (Nat.lt_of_lt_of_le hk g1.size) hne).trans (g1.block k hk hne)⟩, cur2, d1, by rw [d2, b2], fun q hq => ?_⟩
      have hq' : q < i * 6 + (n - j) * 6 := by rw [show n - (j - i) = i + (n - j) by omega, Nat.add_mul] at hq; exact hq
      rw [d3, if_neg (by omega), b3]
      by_cases h : q < i * 6
      · rw [if_neg (by omega), if_pos h]
      · rw [if_pos (by omega), if_neg h, show o + q - (o + i * 6) = q - i * 6 by omega, hget _ (by omega)]
        congr 1
        have : (j - i) * 6 = j * 6 - i * 6 := Nat.sub_mul _ _ _
        have : i * 6 ≤ j * 6 := Nat.mul_le_mul_right _ hij
        omega
    have hzv : ∀ w, (zeroValue 64).run Try.prog w = .ok (Value.agg #[.int .i64 0, .int .u8 0, .int .i64 0, .int .i64 0, .slice none 0 0, .slice none 0 0]) w := fun w => by rfl
    have hcl : ∀ ty, (Builtin.clear_ #[26] ty #[.slice (some ⟨g, o + (i + (n - j)) * 6, none⟩) (n - (i + (n - j))) (c - (i + (n - j)))]).run Try.prog W1 = .ok (.tuple #[]) (W1.setCells g (o + (i + (n - j)) * 6) zs) := by
      intro ty
      rw [hzs]
      exact run_clear_any W1 _ _ ty _ Try.underlying26 hzv 6 rfl (by decide) g (o + (i + (n - j)) * 6) _ _ (by omega) (fun t ht => by
        rw [b1.cell, List.getElem?_eq_getElem (by rw [Array.length_toList, b2]; rw [show n - (i + (n - j)) = j - i by omega] at ht; omega)]
        rfl) (fun t ht => b1.free _)
    obtain ⟨i0, hi0, hi1, hi2, hi3⟩ := minfo_going
    try simp only [Nat.mul_one] at hcl HX
    have hW : Hid (W1 = w.drew.setCells g (o + i * 6) news) := hW1
    have hic : i ≤ c := by omega
    have hjc : j ≤ c := by omega
    have hm9 : c ≤ 9223372036854775807 := hm
    clear hW1 hB hget hnews hlen hone b1 b2 b3 g1 g2 d1 d2 d3 hzl hzs e5 hcz hzv hjn hnc hij5
    go_enter Try.func58, Try.ntmps58
    go_wp2_with fail
    go_region_law (refine step_append_room rfl (.tmp 22) (.tmp 25) 26 rfl 64 i0 6 Try.underlying26 hi0 hi2 g o i c (by simp [Act.eval, Act.put]) A (n - j) (c - j) news (by simp [Act.eval, Act.put] <;> simpa using hA) s1.out hsrc.out s2.out (by omega) s3.out ?_; rw [← hW.out])
    go_wp2
    all_goals (go_ret; exact ⟨by rw [show n - (j - i) = i + (n - j) by omega]; rfl, HX.out⟩)
end Go.Proofs.Ytclbihcggjjgaaa
/- Layer 30 (model): one's own twin lies so that it can be written; marks are written. -/
namespace Go.Proofs.Ytclbihcggjjgaaa
open Go Go.RowKit
set_option linter.unusedVariables false

theorem own_view {w : World} {base e size n : Nat} {v : Value} {xs : List Value} (h : w.ownsRow base e size v n xs) (hn : 0 < n) : ∃ g cap cur, v = .slice (some ⟨g, 0, none⟩) n cap ∧ base ≤ g ∧ BoxOf w g cur e ∧ n ≤ cap ∧ cap ≤ maxLen ∧ cur.size = cap * size ∧ ∀ q, q < n * size → cur.toList[q]? = xs[q]? := by
  rcases h.2 with ⟨_, h0⟩ | ⟨g, cap, cur, e, h1, h2, h3, h4, h5, h6⟩
  · omega
  · refine ⟨g, cap, cur, e, h1, h2, h3, h4, h5, fun q hq => ?_⟩
    rw [← h6, List.getElem?_take, if_pos hq]
theorem getElem?_one {l : List (List Value)} (hl : ∀ es ∈ l, es.length = 1) {i : Nat} (hi : i < l.length) {u : Value} (hu : l[i] = [u]) : l.flatten[i]? = some u := by
  have h := flatten_at l hl i 0 (by decide)
  rw [Nat.mul_one, Nat.add_zero, List.getElem?_eq_getElem hi, hu] at h
  exact h

set_option maxHeartbeats 1000000 in
theorem TwinIs.state {w : World} {lo : Nat} {ys : List (List (List UInt8))} {gs : List GoTy.T} {e : Ending} (h : TwinIs lo ys gs e w) (h0 : 0 < ys.length) (hz : ∀ i (hi : i < ys.length), 0 < (ys[i]).length) :
    ∃ (R cR : Nat) (B : Option Addr) (d : Nat) (By : Nat → Prop), e = .returned (.agg #[.slice (some ⟨R, 0, none⟩) ys.length cR, .slice B gs.length d]) ∧ (ys.length ≤ cR ∧ cR ≤ maxLen) ∧ (gs.length ≤ d ∧ d ≤ maxLen) ∧ MayS w By lo R ys ∧ GoS w By lo B d gs ∧ ∀ b, By b → NewB lo w b := by
  obtain ⟨vy, vg, m, rfl, hlm, hmw, HY, HG⟩ := h
  obtain ⟨ess, Sf, y1, y2, y3, y4, y5, y6⟩ := HY
  obtain ⟨R, cR, cells, rfl, hR, hRB, hc1, hc2, hc3, hc4⟩ := own_view y6 h0
  have hes : ∀ es ∈ ess, es.length = 1 := by
    intro es he
    obtain ⟨i, hi, rfl⟩ := List.getElem_of_mem he
    exact (listE _).len (y2 i (by omega) hi)
  have hrow : ∀ i : Nat, ∃ t : Nat × Nat, ∀ hi : i < ys.length, ∃ (cur : Array Value) (Tf : Nat → Nat → Prop), cells.toList[i]? = some (.slice (some ⟨t.1, 0, none⟩) (ys[i]).length t.2) ∧ BoxOf w t.1 cur 29 ∧ (ys[i]).length ≤ t.2 ∧ t.2 ≤ maxLen ∧ t.2 ≤ cur.size ∧ Sf i t.1 ∧
      (∀ k b, Tf k b → Sf i b ∧ b ≠ t.1) ∧ ∀ k (hk : k < (ys[i]).length), ∃ u, cur.toList[k]? = some u ∧ RdIn w (fun b => Tf k b ∧ Live w b) (.sl .byte) (ys[i])[k] [u] := by
    intro i
    by_cases hi : i < ys.length
    · obtain ⟨u, base, he, ⟨es2, Tf, k1, k2, k3, k4, k5, k6⟩, hzz⟩ := y2 i hi (by omega)
      obtain ⟨g, cap, cur, rfl, q1, q2, q3, q4, q5, q6⟩ := own_view k6 (hz i hi)
      have hes2 : ∀ es ∈ es2, es.length = 1 := by
        intro es he
        obtain ⟨i, hi, rfl⟩ := List.getElem_of_mem he
        exact bytesE.len (k2 i (by omega) hi)
      refine ⟨(g, cap), fun _ => ⟨cur, Tf, ?_, q2, q3, q4, by rw [q5]; simp, k5 g rfl, fun k b hb => ⟨(k3 k b hb).1, fun e => (k3 k b hb).2 (by rw [e]; rfl)⟩, fun k hk => ?_⟩⟩
      · have := hc4 i (by omega)
        rw [this]
        exact getElem?_one hes (by omega) he
      · obtain ⟨u, e1, e2⟩ := k2 k hk (by omega)
        refine ⟨u, ?_, e2⟩
        rw [q6 k (by omega)]
        exact getElem?_one hes2 (by omega) e1
    · exact ⟨(0, 0), fun h => absurd h hi⟩
  obtain ⟨rf, hrf⟩ := Classical.axiomOfChoice hrow
  clear hrow
  obtain ⟨gss, Gf, g1, g2, g3, g4, g5, g6⟩ := HG
  have hmk : ∀ j : Nat, ∃ b : Nat, ∀ hj : j < gs.length, ∃ vd vm, (gss[j]'(by omega)) = [.int .i64 (nuOf gs[j]), .int .u8 ((kiOf gs[j]).toNat : Int), .int .i64 (atOf gs[j]), .int .i64 (manyOf gs[j]), vd, vm] ∧ (IsInt (nuOf gs[j]) ∧ IsInt (atOf gs[j]) ∧ IsInt (manyOf gs[j])) ∧ (∀ x ∈ mksOf gs[j], IsInt x) ∧ (mksOf gs[j]).length * 8 ≤ 140737488355328 ∧
      RdIn w (fun b' => (Gf j b' ∧ Live w b') ∧ (mksOf gs[j] = [] ∨ b' ≠ b)) (.sl .byte) (datOf gs[j]) [vd] ∧ ∃ A c, vm = .slice A (mksOf gs[j]).length c ∧ (mksOf gs[j]).length ≤ c ∧ c ≤ maxLen ∧ (mksOf gs[j] = [] ∨ ∃ cur, A = some ⟨b, 0, none⟩ ∧ BoxOf w b cur 3 ∧ Gf j b ∧ ∀ q (h : q < (mksOf gs[j]).length), cur.toList[q]? = some (.int .i64 (mksOf gs[j])[q])) := by
    intro j
    by_cases hj : j < gs.length
    · obtain ⟨nu, ki, at', many, bs, ms, vd, vm, e1, e2, e3, e4, e5, e6, e7⟩ := g2 j hj (by omega)
      have f1 : nuOf gs[j] = nu := by rw [e1]; rfl
      have f2 : kiOf gs[j] = ki := by rw [e1]; rfl
      have f3 : atOf gs[j] = at' := by rw [e1]; rfl
      have f4 : manyOf gs[j] = many := by rw [e1]; rfl
      have f5 : datOf gs[j] = bs := by rw [e1]; rfl
      have f6 : mksOf gs[j] = ms := by rw [e1]; rfl
      rcases e7 with ⟨rfl, A, c, rfl, hc⟩ | ⟨b, cap, cur, rfl, e8, e9, e10, e11, e12, e13⟩
      · refine ⟨0, fun _ => ⟨vd, .slice A 0 c, ?_, ?_, ?_, ?_, ?_, A, c, ?_, ?_, ?_, ?_⟩⟩
        · rw [f1, f2, f3, f4]; exact e2
        · rw [f1, f3, f4]; exact e3
        · rw [f6]; exact e4
        · rw [f6]; exact e5
        · rw [f5]; exact e6.mono fun b hb => ⟨hb.1, .inl f6⟩
        · rw [f6]; rfl
        · rw [f6]; exact Nat.zero_le _
        · exact hc
        · exact .inl f6
      · refine ⟨b, fun _ => ⟨vd, .slice (some ⟨b, 0, none⟩) ms.length cap, ?_, ?_, ?_, ?_, ?_, some ⟨b, 0, none⟩, cap, ?_, ?_, ?_, ?_⟩⟩
        · rw [f1, f2, f3, f4]; exact e2
        · rw [f1, f3, f4]; exact e3
        · rw [f6]; exact e4
        · rw [f6]; exact e5
        · rw [f5, f6]
          exact e6.mono fun b' hb => ⟨hb.1, hb.2.imp id fun h e => h (by rw [e]; rfl)⟩
        · rw [f6]
        · rw [f6]; exact e10
        · exact e11
        · refine .inr ⟨cur, rfl, e9, e8, fun q hq => ?_⟩
          simp only [f6] at hq ⊢
          have h5 : (ms.map (fun x => Value.int .i64 x))[q]? = some (.int .i64 ms[q]) := by simp [hq]
          rw [← e13, List.getElem?_take, if_pos hq] at h5
          exact h5
    · exact ⟨0, fun h => absurd h hj⟩
  obtain ⟨bf, hbf⟩ := Classical.axiomOfChoice hmk
  clear hmk
  obtain ⟨B, d, hvg, hd⟩ : ∃ B d, vg = .slice B gs.length d ∧ gs.length ≤ d ∧ d ≤ maxLen := by
    rcases g6.2 with ⟨rfl, k0⟩ | ⟨g, cap, cur, rfl, _, _, k1, k2, _⟩
    · exact ⟨none, 0, by rw [k0], by omega, by unfold maxLen; omega⟩
    · exact ⟨_, _, rfl, k1, k2⟩
  subst hvg
  have hS : ∀ i b, Sf i b → lo ≤ b ∧ b < m ∧ b ≠ R := fun i b hb => ⟨(y3 i b hb).1.1, (y3 i b hb).1.2, fun e => (y3 i b hb).2 (by rw [e]; rfl)⟩
  have hGs : ∀ j b, Gf j b → m ≤ b ∧ b < w.heap.size ∧ (Value.slice B gs.length d).ownBlock ≠ some b := fun j b hb => ⟨(g3 j b hb).1.1, (g3 j b hb).1.2, (g3 j b hb).2⟩
  have hRm : R < m := (y5 R rfl).2
  refine ⟨R, cR, B, d, fun b => NewB lo w b ∧ b ≠ R ∧ (∀ i, i < ys.length → b ≠ (rf i).1) ∧ (Value.slice B gs.length d).ownBlock ≠ some b ∧ ∀ j (hj : j < gs.length), mksOf gs[j] ≠ [] → b ≠ bf j, rfl, ⟨hc1, hc2⟩, hd, ?_, ?_, fun b hb => hb.1⟩
  · refine ⟨cells, fun i => (rf i).1, fun _ => 0, fun i => (rf i).2, hRB, ⟨hR, fun h => h.2.1 rfl⟩, fun i hi => ?_, fun i j hi hj e => ?_⟩
    · obtain ⟨cur, Tf, t1, t2, t3, t4, t5, t6, t7, t8⟩ := hrf i hi
      refine ⟨t1, cur, t2, t3, t4, by rw [Nat.zero_add]; exact t5, ⟨(hS i _ t6).1, fun h => h.2.2.1 i hi rfl⟩, fun k hk => ?_⟩
      obtain ⟨u, u1, u2⟩ := t8 k hk
      refine ⟨u, by rw [Nat.zero_add]; exact u1, u2.mono fun b hb => ?_⟩
      obtain ⟨hb1, hb2⟩ := t7 k b hb.1
      have hb3 := hS i b hb1
      refine ⟨⟨hb3.1, by omega, hb.2⟩, hb3.2.2, fun i' hi' e => ?_, fun e => ?_, fun j hj hne e => ?_⟩
      · obtain ⟨_, _, _, _, _, _, _, t6', _⟩ := hrf i' hi'
        rw [← e] at t6'
        have := y4 i i' b hb1 t6'
        subst this
        exact hb2 e
      · have := (g5 b e).1; omega
      · obtain ⟨vd, vm, _, _, _, _, _, A, c, _, _, _, hh⟩ := hbf j hj
        rcases hh with hh | ⟨cur', _, _, hh, _⟩
        · exact hne hh
        · have := (hGs j _ hh).1; omega
    · obtain ⟨_, _, _, _, _, _, _, t6, _⟩ := hrf i hi
      obtain ⟨_, _, _, _, _, _, _, t6', _⟩ := hrf j hj
      have e' : (rf i).1 = (rf j).1 := e
      rw [← e'] at t6'
      exact y4 i j _ t6 t6'
  · rcases Nat.eq_zero_or_pos gs.length with hg0 | hg0
    · exact .inl (List.eq_nil_of_length_eq_zero hg0)
    · obtain ⟨G, cap, gcells, e1, e2, e3, e4, e5, e6, e7⟩ := own_view g6 hg0
      injection e1 with e1 _ e1'
      subst e1 e1'
      have hges : ∀ es ∈ gss, es.length = 6 := by
        intro es he
        obtain ⟨i, hi, rfl⟩ := List.getElem_of_mem he
        exact (goE _).len (g2 i (by omega) hi)
      refine .inr ⟨G, 0, gcells, bf, rfl, e3, ⟨by omega, fun h => h.2.2.2.1 rfl, by rw [e6]; omega⟩, fun j hj => ?_, fun i j hi hj hi1 hj1 e => ?_⟩
      · obtain ⟨vd, vm, k1, k2, k3, k4, k5, A, c, k6, k7, k8, k9⟩ := hbf j hj
        have hcell : ∀ q, q < 6 → gcells.toList[0 + j * 6 + q]? = (gss[j]'(by omega))[q]? := by
          intro q hq
          have h1 := flatten_at gss hges j q hq
          rw [List.getElem?_eq_getElem (show j < gss.length by omega)] at h1
          rw [Nat.zero_add, e7 _ (by omega), h1]
          rfl
        refine ⟨vd, vm, ⟨?_, ?_, ?_, ?_, ?_, ?_⟩, k2, k5.mono fun b hb => ?_, k3, A, c, k6, k7, k8, k4, ?_⟩
        · show gcells.toList[0 + j * 6 + 0]? = _
          rw [hcell 0 (by decide), k1]; rfl
        · show gcells.toList[0 + j * 6 + 1]? = _
          rw [hcell 1 (by decide), k1]; rfl
        · show gcells.toList[0 + j * 6 + 2]? = _
          rw [hcell 2 (by decide), k1]; rfl
        · show gcells.toList[0 + j * 6 + 3]? = _
          rw [hcell 3 (by decide), k1]; rfl
        · show gcells.toList[0 + j * 6 + 4]? = _
          rw [hcell 4 (by decide), k1]; rfl
        · show gcells.toList[0 + j * 6 + 5]? = _
          rw [hcell 5 (by decide), k1]; rfl
        · have hb3 := hGs j b hb.1.1
          refine ⟨⟨by omega, hb3.2.1, hb.1.2⟩, by omega, fun i' hi' e => ?_, hb3.2.2, fun j' hj' hne e => ?_⟩
          · obtain ⟨_, _, _, _, _, _, _, t6', _⟩ := hrf i' hi'
            have := (hS i' _ t6').2.1; omega
          · obtain ⟨_, _, _, _, _, _, _, A', c', _, _, _, hh⟩ := hbf j' hj'
            rcases hh with hh | ⟨cur', _, _, hh, _⟩
            · exact hne hh
            · rw [← e] at hh
              have := g4 j j' b hb.1.1 hh
              subst this
              rcases hb.2 with h | h
              · exact hne h
              · exact h e
        · rcases k9 with k9 | ⟨cur, m1, m2, m3, m4⟩
          · exact .inl k9
          · have hne : mksOf gs[j] = [] ∨ mksOf gs[j] ≠ [] := Classical.em _
            rcases hne with hne | hne
            · exact .inl hne
            · exact .inr ⟨0, cur, m1, m2, ⟨by have := (hGs j _ m3).1; omega, fun h => h.2.2.2.2 j hj hne rfl⟩, fun q hq => by rw [Nat.zero_add]; exact m4 q hq⟩
      · obtain ⟨_, _, _, _, _, _, _, A, c, _, _, _, hh⟩ := hbf i hi
        obtain ⟨_, _, _, _, _, _, _, A', c', _, _, _, hh'⟩ := hbf j hj
        rcases hh with hh | ⟨cur, _, _, hh, _⟩
        · exact absurd hh hi1
        · rcases hh' with hh' | ⟨cur', _, _, hh', _⟩
          · exact absurd hh' hj1
          · rw [← e] at hh'
            exact g4 i j _ hh hh'

/-! ### marks -/
def setMks (g : GoTy.T) (ms : List Int) : GoTy.T := (nuOf g, (kiOf g, atOf g, manyOf g, datOf g, ()), ms, ())
theorem GoS.mark {w : World} {By : Nat → Prop} {lo : Nat} {B : Option Addr} {d : Nat} {gs : List GoTy.T} (h : GoS w By lo B d gs) {j : Nat} (hj : j < gs.length) :
    ∃ (G o : Nat) (cells : Array Value) (Ab : Option Addr) (cb : Nat) (Am : Option Addr) (cm : Nat), B = some ⟨G, o, none⟩ ∧ BoxOf w G cells 64 ∧
      (w.cell? ⟨G, o + j * 6, none⟩ = some (.int .i64 (nuOf gs[j])) ∧ w.cell? ⟨G, o + j * 6 + 1, none⟩ = some (.int .u8 ((kiOf gs[j]).toNat : Int)) ∧ w.cell? ⟨G, o + j * 6 + 2, none⟩ = some (.int .i64 (atOf gs[j])) ∧ w.cell? ⟨G, o + j * 6 + 3, none⟩ = some (.int .i64 (manyOf gs[j])) ∧ w.cell? ⟨G, o + j * 6 + 4, none⟩ = some (.slice Ab (datOf gs[j]).length cb) ∧ w.cell? ⟨G, o + j * 6 + 5, none⟩ = some (.slice Am (mksOf gs[j]).length cm)) ∧
      RdIn w By (.sl .byte) (datOf gs[j]) [.slice Ab (datOf gs[j]).length cb] ∧ (mksOf gs[j]).length ≤ maxLen ∧ (∀ x ∈ mksOf gs[j], IsInt x) ∧ (IsInt (nuOf gs[j]) ∧ IsInt (atOf gs[j]) ∧ IsInt (manyOf gs[j])) ∧
      (0 < (mksOf gs[j]).length → ∃ (b oo : Nat) (cur : Array Value), Am = some ⟨b, oo, none⟩ ∧ BoxOf w b cur 3 ∧ (lo ≤ b ∧ ¬ By b) ∧ (∀ q (hq : q < (mksOf gs[j]).length), w.cell? ⟨b, oo + q, none⟩ = some (.int .i64 (mksOf gs[j])[q])) ∧
        ∀ (w' : World) (k : Nat) (x : Int), Below w.heap.size w w' → (∀ b, By b → b < w.heap.size) → k < (mksOf gs[j]).length → IsInt x → GoS (w'.setCell ⟨b, oo + k, none⟩ (.int .i64 x)) By lo B d (gs.set j (setMks gs[j] ((mksOf gs[j]).set k x)))) := by
  rcases h with h | ⟨G, o, cells, bf, h1, h2, h3, h4, h5⟩
  · rw [h] at hj; simp at hj
  · have h4j := h4 j hj
    obtain ⟨vd, vm, ⟨k0, k1, k2, k3, k4, k5⟩, k6, k7, m0, Am, cm, rfl, m2, m3, m4, m5⟩ := h4j
    obtain ⟨Ab, cb, rfl, _⟩ := k7.bytes
    refine ⟨G, o, cells, Ab, cb, Am, cm, h1, h2, ⟨by rw [h2.cell]; exact k0, by rw [h2.cell]; exact k1, by rw [h2.cell]; exact k2, by rw [h2.cell]; exact k3, by rw [h2.cell]; exact k4, by rw [h2.cell]; exact k5⟩, k7, by omega, m0, k6, fun hp => ?_⟩
    have hne : mksOf gs[j] ≠ [] := fun e => by rw [e] at hp; simp at hp
    rcases m5 with m5 | ⟨oo, cur, m6, m7, m8, m9⟩
    · exact absurd m5 hne
    · refine ⟨bf j, oo, cur, m6, m7, m8, fun q hq => by rw [m7.cell]; exact m9 q hq, fun w' k x hbw hBy hk hx => .inr ⟨G, o, cells, bf, h1, ?_, h3, fun i hi => ?_, fun i i' hi hi' e1 e2 e => ?_⟩⟩
      · exact mbox_else (h2.next hbw) (box_diff h2 m7 (by decide)) _ _
      · rw [List.length_set] at hi
        have hB : ∀ b, By b → (w'.setCell ⟨bf j, oo + k, none⟩ (.int .i64 x)).heap[b]? = w.heap[b]? := fun b hb => (Below.heap_setCell _ _ _ _ (fun e => m8.2 (by have e' : b = bf j := e; rw [← e']; exact hb))).trans (hbw.block b (hBy b hb))
        by_cases e : i = j
        · subst e
          rw [List.getElem_set_self]
          refine ⟨_, _, ⟨k0, k1, k2, k3, k4, k5⟩, k6, k7.frame hB, ?_⟩
          have hml : ((mksOf gs[i]).set k x).length = (mksOf gs[i]).length := List.length_set
          refine ⟨fun y hy => ?_, Am, cm, by show Value.slice Am (mksOf gs[i]).length cm = .slice Am ((mksOf gs[i]).set k x).length cm; rw [hml], by show ((mksOf gs[i]).set k x).length ≤ cm; rw [hml]; exact m2, m3, by show ((mksOf gs[i]).set k x).length * 8 ≤ _; rw [hml]; exact m4, .inr ⟨oo, _, m6, mbox_self (m7.next hbw) (oo + k) (.int .i64 x), m8, fun q hq => ?_⟩⟩
          · have hy' : y ∈ (mksOf gs[i]).set k x := hy
            rcases List.mem_or_eq_of_mem_set hy' with h | h
            · exact m0 y h
            · rw [h]; exact hx
          · have hq' : q < (mksOf gs[i]).length := by rw [← hml]; exact hq
            show (cur.setIfInBounds (oo + k) (.int .i64 x)).toList[oo + q]? = some (.int .i64 (((mksOf gs[i]).set k x)[q]'(by rw [hml]; exact hq')))
            have hlq := (List.getElem?_eq_some_iff.1 (m9 k hk)).1
            rw [Array.toList_setIfInBounds]
            by_cases hqk : q = k
            · subst hqk
              rw [List.getElem?_set_self hlq, List.getElem_set_self]
            · rw [List.getElem?_set_ne (by omega), List.getElem_set_ne (fun e => hqk e.symm)]
              exact m9 q hq'
        · rw [List.getElem_set_ne (fun h => e h.symm)]
          refine (h4 i hi).frame (fun _ _ => rfl) (fun hne' => (Below.heap_setCell _ _ _ _ (fun e' => e ?_)).trans (hbw.block _ ?_)) hB (fun _ h => h) (fun _ _ h => h)
          · exact h5 i j hi hj hne' hne e'
          · obtain ⟨_, _, _, _, _, _, _, _, _, _, _, _, hh⟩ := h4 i hi
            rcases hh with hh | ⟨_, _, _, hh, _⟩
            · exact absurd hh hne'
            · exact hh.lt
      · rw [List.length_set] at hi hi'
        have hz : ∀ i (hi : i < (gs.set j (setMks gs[j] ((mksOf gs[j]).set k x))).length), mksOf ((gs.set j (setMks gs[j] ((mksOf gs[j]).set k x)))[i]) ≠ [] → ∀ hi2 : i < gs.length, mksOf gs[i] ≠ [] := by
          intro i hi hh hi2
          by_cases e : i = j
          · subst e; exact hne
          · rwa [List.getElem_set_ne (fun h => e h.symm)] at hh
        exact h5 i i' hi hi' (hz i _ e1 hi) (hz i' _ e2 hi') e
end Go.Proofs.Ytclbihcggjjgaaa
/- Layer 30 (model), plainly: what a request's end does to a plain array, and that it stays one. -/
namespace Go.Proofs.Ytclbihcggjjgaaa
open Go Go.RowKit
set_option linter.unusedVariables false

abbrev Ys := List (List (List UInt8))
def dropMk (b many : Nat) (g : GoTy.T) : GoTy.T := if mksOf g = [] then g else setMks g ((mksOf g).set b (max 0 ((mksOf g).getD b 0 - (many : Int))))
def dropY (b many : Nat) (ys : Ys) : Ys := ys.set b ((ys.getD b []).drop many)
def dropG (b many : Nat) (gs : List GoTy.T) : List GoTy.T := gs.map (dropMk b many)
def dropS (b many : Nat) (s : Ys × List GoTy.T) : Ys × List GoTy.T := (dropY b many s.1, dropG b many s.2)
def marksS (ms : List Int) : Nat → Ys × List GoTy.T → Ys × List GoTy.T
  | 0, s => s
  | j + 1, s => dropS j (ms.getD j 0).toNat (marksS ms j s)
def pushY (b : Nat) (v : List UInt8) (ys : Ys) : Ys := ys.set b (ys.getD b [] ++ [v])
def putS (k : Int) (b : Nat) (v : List UInt8) (s : Ys × List GoTy.T) : Ys × List GoTy.T :=
  if k = 3 then dropS b ((s.1.getD b [] ++ [v]).length - 1) (pushY b v s.1, s.2) else (pushY b v s.1, s.2)
def stepS (k : Int) (bs : List UInt8) (a i : Nat) (t : (Ys × List GoTy.T) × List UInt8) : Option ((Ys × List GoTy.T) × List UInt8) :=
  if kWrites k = true then (if 512 < ((putS k (a + i) (blk k bs i) t.1).1.getD (a + i) []).length then none else some (putS k (a + i) (blk k bs i) t.1, t.2))
  else some (t.1, t.2 ++ (t.1.1.getD (a + i) []).getLastD [])
def endS (k : Int) (bs : List UInt8) (a : Nat) : Nat → Ys × List GoTy.T → Option ((Ys × List GoTy.T) × List UInt8)
  | 0, s => some (s, [])
  | i + 1, s => (endS k bs a i s).bind (stepS k bs a i)

/-! ### a request, marks turned -/
theorem setMks_mks (g : GoTy.T) (ms : List Int) : mksOf (setMks g ms) = ms := rfl
theorem setMks_self (g : GoTy.T) : setMks g (mksOf g) = g := by
  obtain ⟨nu, ⟨ki, a, y, bs, u⟩, ms, v⟩ := g
  rfl
theorem dropMk_nu (b many : Nat) (g : GoTy.T) : nuOf (dropMk b many g) = nuOf g := by unfold dropMk; split <;> rfl
theorem dropMk_ki (b many : Nat) (g : GoTy.T) : kiOf (dropMk b many g) = kiOf g := by unfold dropMk; split <;> rfl
theorem dropMk_at (b many : Nat) (g : GoTy.T) : atOf (dropMk b many g) = atOf g := by unfold dropMk; split <;> rfl
theorem dropMk_many (b many : Nat) (g : GoTy.T) : manyOf (dropMk b many g) = manyOf g := by unfold dropMk; split <;> rfl
theorem dropMk_dat (b many : Nat) (g : GoTy.T) : datOf (dropMk b many g) = datOf g := by unfold dropMk; split <;> rfl
theorem dropMk_len (b many : Nat) (g : GoTy.T) : (mksOf (dropMk b many g)).length = (mksOf g).length := by
  unfold dropMk
  split
  · rfl
  · rw [setMks_mks, List.length_set]
theorem dropMk_get (b many : Nat) (g : GoTy.T) (i : Nat) (h : i < (mksOf g).length) (h' : i < (mksOf (dropMk b many g)).length) : (mksOf (dropMk b many g))[i] = if i = b then max 0 ((mksOf g)[i] - (many : Int)) else (mksOf g)[i] := by
  have hne : mksOf g ≠ [] := fun e => by rw [e] at h; simp at h
  have e : mksOf (dropMk b many g) = (mksOf g).set b (max 0 ((mksOf g).getD b 0 - (many : Int))) := by
    unfold dropMk
    rw [if_neg hne, setMks_mks]
  have e2 : (mksOf (dropMk b many g))[i]? = ((mksOf g).set b (max 0 ((mksOf g).getD b 0 - (many : Int))))[i]? := by rw [e]
  rw [List.getElem?_eq_getElem h'] at e2
  have e3 := Option.some.inj (e2.trans (List.getElem?_eq_getElem (by rw [List.length_set]; exact h)))
  rw [e3, List.getElem_set]
  by_cases hb : i = b
  · subst hb
    rw [if_pos rfl, if_pos rfl]
    rw [List.getD_eq_getElem?_getD, List.getElem?_eq_getElem h]
    rfl
  · rw [if_neg (fun e => hb e.symm), if_neg hb]
/-! ### it stays one -/
theorem getD_lt {ys : Ys} {b : Nat} (h : b < ys.length) : ys.getD b [] = ys[b] := by
  rw [List.getD_eq_getElem?_getD, List.getElem?_eq_getElem h]; rfl
theorem PlainOk.turn {x : Cfg} {ys : Ys} {gs : List GoTy.T} (h : PlainOk x ys gs) {b : Nat} (hb : b < ys.length) (many : Nat) (zs : List (List UInt8)) (hz : RowOk zs) (hm : ∀ m : Int, 0 ≤ m → m < ((ys[b]).length : Int) → max 0 (m - (many : Int)) < (zs.length : Int)) : PlainOk x (ys.set b zs) (dropG b many gs) where
  cfg := h.cfg
  len := by rw [List.length_set]; exact h.len
  few := by unfold dropG; rw [List.length_map]; exact h.few
  vals := fun i hi => by
    rw [List.length_set] at hi
    by_cases e : i = b
    · subst e
      rw [List.getElem_set_self]
      exact hz
    · rw [List.getElem_set_ne (fun h => e h.symm)]
      exact h.vals i hi
  goes := fun i hi => by
    unfold dropG at *
    rw [List.length_map] at hi
    have e : (gs.map (dropMk b many))[i] = dropMk b many gs[i] := List.getElem_map _
    obtain ⟨⟨h1, h2, h3⟩, h4⟩ := h.goes i hi
    refine ⟨⟨?_, ?_, ?_⟩, ?_⟩
    · rw [e, dropMk_nu]; exact h1
    · rw [e, dropMk_ki, dropMk_at, dropMk_many, dropMk_dat]; exact h2
    · rw [e, dropMk_ki]
      unfold MarksOk at h3 ⊢
      split at h3
      · rename_i hk
        rw [if_pos hk, dropMk_len, List.length_set]
        refine ⟨h3.1, fun q hq hq' => ?_⟩
        have hq0 : q < (mksOf gs[i]).length := by rw [dropMk_len] at hq; exact hq
        have hq1 : q < ys.length := by rw [List.length_set] at hq'; exact hq'
        have h5 := h3.2 q hq0 hq1
        rw [dropMk_get b many _ q hq0 hq]
        by_cases e2 : q = b
        · subst e2
          rw [if_pos rfl, List.getElem_set_self]
          exact ⟨Int.le_max_left _ _, hm _ h5.1 h5.2⟩
        · rw [if_neg e2, List.getElem_set_ne (fun h => e2 h.symm)]
          exact h5
      · rename_i hk
        rw [if_neg hk, dropMk_len]
        exact h3
    · intro h5 h6
      have h7 : i - 1 < gs.length := by rw [List.length_map] at h5; exact h5
      rw [e, dropMk_nu]
      have e' : (gs.map (dropMk b many))[i - 1] = dropMk b many gs[i - 1] := List.getElem_map _
      rw [e', dropMk_nu]
      exact h4 h7 h6
theorem PlainOk.row {x : Cfg} {ys : Ys} {gs : List GoTy.T} (h : PlainOk x ys gs) {b : Nat} (hb : b < ys.length) : 1 ≤ (ys[b]).length ∧ (ys[b]).length ≤ 512 ∧ ∀ k (hk : k < (ys[b]).length), ((ys[b])[k]).length = 128 := by
  obtain ⟨h1, h2, h3⟩ := h.vals b hb
  exact ⟨h1, h2, fun k hk => h3 k hk⟩
theorem PlainOk.drop {x : Cfg} {ys : Ys} {gs : List GoTy.T} (h : PlainOk x ys gs) {b many : Nat} (hb : b < ys.length) (hm : many < (ys[b]).length) : PlainOk x (dropY b many ys) (dropG b many gs) := by
  obtain ⟨h1, h2, h3⟩ := h.row hb
  unfold dropY
  rw [getD_lt hb]
  refine h.turn hb many _ ⟨by rw [List.length_drop]; omega, by rw [List.length_drop]; omega, fun k hk => ?_⟩ (fun m m0 m1 => ?_)
  · rw [List.getElem_drop]
    exact h3 _ _
  · rw [List.length_drop]
    omega
theorem dropMk_none {b : Nat} {g : GoTy.T} (h : ∀ q (hq : q < (mksOf g).length), 0 ≤ (mksOf g)[q]) : dropMk b 0 g = g := by
  by_cases hn : mksOf g = []
  · unfold dropMk
    rw [if_pos hn]
  · unfold dropMk
    rw [if_neg hn]
    have e : (mksOf g).set b (max 0 ((mksOf g).getD b 0 - ((0 : Nat) : Int))) = mksOf g := by
      apply List.ext_getElem
      · rw [List.length_set]
      · intro i h1 h2
        rw [List.getElem_set]
        by_cases hb : b = i
        · subst hb
          have := h b h2
          rw [if_pos rfl, List.getD_eq_getElem?_getD, List.getElem?_eq_getElem h2]
          show max 0 ((mksOf g)[b] - ((0 : Nat) : Int)) = _
          omega
        · rw [if_neg hb]
    rw [e, setMks_self]
theorem PlainOk.marks {x : Cfg} {ys : Ys} {gs : List GoTy.T} (h : PlainOk x ys gs) {j : Nat} (hj : j < gs.length) : (mksOf gs[j] = [] ∨ (mksOf gs[j]).length = ys.length) ∧ ∀ q (hq : q < (mksOf gs[j]).length), ∃ hq' : q < ys.length, 0 ≤ (mksOf gs[j])[q] ∧ (mksOf gs[j])[q] < ((ys[q]).length : Int) := by
  obtain ⟨⟨_, _, h3⟩, _⟩ := h.goes j hj
  unfold MarksOk at h3
  split at h3
  · exact ⟨.inr h3.1, fun q hq => ⟨by omega, h3.2 q hq (by omega)⟩⟩
  · exact ⟨.inl (List.eq_nil_of_length_eq_zero h3), fun q hq => by omega⟩
theorem PlainOk.none {x : Cfg} {ys : Ys} {gs : List GoTy.T} (h : PlainOk x ys gs) (b : Nat) : dropG b 0 gs = gs := by
  unfold dropG
  apply List.ext_getElem
  · rw [List.length_map]
  · intro i h1 h2
    rw [List.getElem_map]
    refine dropMk_none fun q hq => ?_
    obtain ⟨_, h3, _⟩ := (h.marks h2).2 q hq
    exact h3
theorem PlainOk.push {x : Cfg} {ys : Ys} {gs : List GoTy.T} (h : PlainOk x ys gs) {b : Nat} (hb : b < ys.length) {v : List UInt8} (hv : v.length = 128) (hl : (ys[b]).length < 512) : PlainOk x (pushY b v ys) gs := by
  obtain ⟨h1, h2, h3⟩ := h.row hb
  unfold pushY
  rw [getD_lt hb]
  have := h.turn hb 0 (ys[b] ++ [v]) ⟨by rw [List.length_append]; omega, by rw [List.length_append, List.length_singleton]; omega, fun k hk => ?_⟩ (fun m m0 m1 => by rw [List.length_append, List.length_singleton]; omega)
  · rwa [h.none] at this
  · rw [List.getElem_append]
    split
    · exact h3 _ _
    · simpa using hv
theorem put_fua {b : Nat} {v : List UInt8} {s : Ys × List GoTy.T} (hb : b < s.1.length) : putS 3 b v s = (s.1.set b [v], dropG b (s.1[b]).length s.2) := by
  unfold putS dropS dropY pushY
  rw [if_pos rfl, getD_lt hb]
  have e : (s.1[b] ++ [v]).length - 1 = (s.1[b]).length := by rw [List.length_append, List.length_singleton]; omega
  have e2 : (s.1.set b (s.1[b] ++ [v])).getD b [] = s.1[b] ++ [v] := by
    rw [List.getD_eq_getElem?_getD, List.getElem?_set_self hb]; rfl
  simp only [e, e2]
  rw [List.set_set, List.drop_left]
theorem PlainOk.put {x : Cfg} {ys : Ys} {gs : List GoTy.T} (h : PlainOk x ys gs) {k : Int} {b : Nat} (hb : b < ys.length) {v : List UInt8} (hv : v.length = 128) (hl : ¬ 512 < ((putS k b v (ys, gs)).1.getD b []).length) : PlainOk x (putS k b v (ys, gs)).1 (putS k b v (ys, gs)).2 := by
  by_cases hk : k = 3
  · subst hk
    rw [put_fua hb]
    exact h.turn hb (ys[b]).length [v] ⟨by simp, by simp, fun k hk => by
      have : k = 0 := by simpa using hk
      subst this
      exact hv⟩ (fun m m0 m1 => by show max 0 (m - ((ys[b]).length : Int)) < 1; omega)
  · have e : putS k b v (ys, gs) = (pushY b v ys, gs) := by unfold putS; rw [if_neg hk]
    rw [e] at hl ⊢
    refine h.push hb hv ?_
    have e2 : (pushY b v ys).getD b [] = ys[b] ++ [v] := by
      unfold pushY
      rw [List.getD_eq_getElem?_getD, List.getElem?_set_self hb, getD_lt hb]; rfl
    rw [e2, List.length_append, List.length_singleton] at hl
    omega

/-! ### one request goes -/
theorem PlainOk.less {x : Cfg} {ys : Ys} {gs : List GoTy.T} (h : PlainOk x ys gs) : ∀ (j i : Nat) (hj : j < gs.length) (hi : i < j), nuOf (gs[i]'(by omega)) < nuOf gs[j]
  | 0, i, hj, hi => by omega
  | j + 1, i, hj, hi => by
    have h1 := (h.goes (j + 1) hj).2 (by omega) (by omega)
    simp only [Nat.add_sub_cancel] at h1
    by_cases e : i = j
    · subst e; exact h1
    · exact Int.lt_trans (h.less j i (by omega) (by omega)) h1
theorem PlainOk.one {x : Cfg} {ys : Ys} {gs : List GoTy.T} (h : PlainOk x ys gs) {i j : Nat} (hi : i < gs.length) (hj : j < gs.length) (e : nuOf gs[i] = nuOf gs[j]) : i = j := by
  rcases Nat.lt_trichotomy i j with h1 | h1 | h1
  · have := h.less j i hj h1; omega
  · exact h1
  · have := h.less i j hi h1; omega
theorem PlainOk.erase {x : Cfg} {ys : Ys} {gs : List GoTy.T} (h : PlainOk x ys gs) {j : Nat} (hj : j < gs.length) : PlainOk x ys (gs.eraseIdx j) where
  cfg := h.cfg
  len := h.len
  few := by rw [List.length_eraseIdx_of_lt hj]; have := h.few; omega
  vals := h.vals
  goes := fun i hi => by
    rw [List.length_eraseIdx_of_lt hj] at hi
    have hget : ∀ q (hq : q < (gs.eraseIdx j).length), (gs.eraseIdx j)[q] = gs[if q < j then q else q + 1]'(by rw [List.length_eraseIdx_of_lt hj] at hq; split <;> omega) := by
      intro q hq
      rw [List.getElem_eraseIdx]
      split <;> simp [*]
    rw [hget]
    refine ⟨(h.goes _ _).1, fun h5 h6 => ?_⟩
    rw [hget]
    exact h.less _ _ _ (by split <;> split <;> omega)

/-! ### marks go -/
theorem dropS_len (b many : Nat) (s : Ys × List GoTy.T) : (dropS b many s).1.length = s.1.length ∧ (dropS b many s).2.length = s.2.length := by
  unfold dropS dropY dropG
  exact ⟨List.length_set, List.length_map _⟩
theorem marksS_ok {x : Cfg} {ms : List Int} {s : Ys × List GoTy.T} (h : PlainOk x s.1 s.2) (hl : ms.length ≤ s.1.length) (hm : ∀ q (hq : q < ms.length), ∃ hq' : q < s.1.length, 0 ≤ ms[q] ∧ ms[q] < ((s.1[q]).length : Int)) :
    ∀ j, j ≤ ms.length → PlainOk x (marksS ms j s).1 (marksS ms j s).2 ∧ (marksS ms j s).1.length = s.1.length ∧ (marksS ms j s).2.length = s.2.length ∧ (∀ q, j ≤ q → (marksS ms j s).1.getD q [] = s.1.getD q []) ∧ ∀ q, q < j → (marksS ms j s).1.getD q [] = (s.1.getD q []).drop (ms.getD q 0).toNat
  | 0, _ => ⟨h, rfl, rfl, fun _ _ => rfl, fun q hq => by omega⟩
  | j + 1, hj => by
    obtain ⟨h1, h2, h3, h4, h5⟩ := marksS_ok h hl hm j (by omega)
    obtain ⟨hq', m0, m1⟩ := hm j (by omega)
    have hjs : j < (marksS ms j s).1.length := by rw [h2]; exact hq'
    have e0 : ms.getD j 0 = ms[j] := by rw [List.getD_eq_getElem?_getD, List.getElem?_eq_getElem (by omega)]; rfl
    have e1 : (marksS ms j s).1[j] = s.1[j] := by rw [← getD_lt hjs, h4 j (Nat.le_refl _), getD_lt hq']
    show PlainOk x (dropS j (ms.getD j 0).toNat (marksS ms j s)).1 (dropS j (ms.getD j 0).toNat (marksS ms j s)).2 ∧ (dropS j (ms.getD j 0).toNat (marksS ms j s)).1.length = _ ∧ (dropS j (ms.getD j 0).toNat (marksS ms j s)).2.length = _ ∧ (∀ q, j + 1 ≤ q → (dropS j (ms.getD j 0).toNat (marksS ms j s)).1.getD q [] = _) ∧ ∀ q, q < j + 1 → (dropS j (ms.getD j 0).toNat (marksS ms j s)).1.getD q [] = _
    refine ⟨h1.drop hjs (by rw [e1, e0]; omega), by rw [(dropS_len _ _ _).1]; exact h2, by rw [(dropS_len _ _ _).2]; exact h3, fun q hq => ?_, fun q hq => ?_⟩
    · rw [← h4 q (by omega)]
      unfold dropS dropY
      simp only [List.getD_eq_getElem?_getD]
      rw [List.getElem?_set_ne (by omega)]
    · by_cases e : q = j
      · subst e
        unfold dropS dropY
        simp only
        rw [List.getD_eq_getElem?_getD, List.getElem?_set_self hjs, h4 q (Nat.le_refl _)]
        rfl
      · rw [← h5 q (by omega)]
        unfold dropS dropY
        simp only [List.getD_eq_getElem?_getD]
        rw [List.getElem?_set_ne (fun h => e h.symm)]
theorem putS_len (k : Int) (b : Nat) (v : List UInt8) (s : Ys × List GoTy.T) : (putS k b v s).1.length = s.1.length ∧ (putS k b v s).2.length = s.2.length := by
  unfold putS
  split
  · rw [(dropS_len _ _ _).1, (dropS_len _ _ _).2]
    exact ⟨List.length_set, rfl⟩
  · exact ⟨List.length_set, rfl⟩
theorem blk_len {k : Int} {bs : List UInt8} {i : Nat} (h : kBytes k = true → i * 128 + 128 ≤ bs.length) : (blk k bs i).length = 128 := by
  unfold blk
  split
  · rename_i hk
    exact part128_len (h hk)
  · exact zeros_len
theorem endS_ok {x : Cfg} {k : Int} {bs : List UInt8} {a : Nat} {s : Ys × List GoTy.T} (h : PlainOk x s.1 s.2) {y : Nat} (hy : a + y ≤ s.1.length) (hb : kBytes k = true → y * 128 ≤ bs.length) :
    ∀ i, i ≤ y → ∀ t, endS k bs a i s = some t → PlainOk x t.1.1 t.1.2 ∧ t.1.1.length = s.1.length ∧ t.1.2.length = s.2.length
  | 0, _, t, ht => by
    obtain rfl := Option.some.inj ht
    exact ⟨h, rfl, rfl⟩
  | i + 1, hi, t, ht => by
    obtain ⟨t', h1, h2⟩ := Option.bind_eq_some_iff.1 (show (endS k bs a i s).bind (stepS k bs a i) = some t from ht)
    obtain ⟨k1, k2, k3⟩ := endS_ok h hy hb i (by omega) t' h1
    unfold stepS at h2
    split at h2
    · split at h2
      · cases h2
      · rename_i hl
        obtain rfl := Option.some.inj h2
        have hv := blk_len (k := k) (bs := bs) (i := i) (fun hk => by have := hb hk; omega)
        exact ⟨k1.put (by omega) hv hl, by rw [(putS_len _ _ _ _).1]; exact k2, by rw [(putS_len _ _ _ _).2]; exact k3⟩
    · obtain rfl := Option.some.inj h2
      exact ⟨k1, k2, k3⟩

/-! ### what End answers -/
def endAll (ys : Ys) (gs : List GoTy.T) (j : Nat) : Option ((Ys × List GoTy.T) × List UInt8) :=
  match gs[j]? with
  | none => none
  | some g => endS ((kiOf g).toNat : Int) (datOf g) (atOf g).toNat (manyOf g).toNat (marksS (mksOf g) (mksOf g).length (ys, gs.eraseIdx j))
def EndRel (x : Cfg) (ys : Ys) (gs : List GoTy.T) (number v : Int) (zs : Ys) (hs : List GoTy.T) (rn : Int) (dat : List UInt8) (many : Int) : Prop :=
  (¬ PlainOk x ys gs ∧ v = 8 ∧ zs = [] ∧ hs = [] ∧ rn = 0 ∧ dat = [] ∧ many = 0) ∨
  (PlainOk x ys gs ∧ (∀ j (h : j < gs.length), ¬ nuOf gs[j] = number) ∧ v = 6 ∧ zs = [] ∧ hs = [] ∧ rn = 0 ∧ dat = [] ∧ many = 0) ∨
  (PlainOk x ys gs ∧ (∃ j, ∃ h : j < gs.length, nuOf gs[j] = number ∧ endAll ys gs j = none) ∧ v = 9 ∧ zs = [] ∧ hs = [] ∧ rn = 0 ∧ dat = [] ∧ many = 0) ∨
  (PlainOk x ys gs ∧ (∃ j, ∃ h : j < gs.length, nuOf gs[j] = number ∧ endAll ys gs j = some ((zs, hs), dat) ∧ many = manyOf gs[j]) ∧ v = 0 ∧ rn = number)
theorem EndRel.one {x : Cfg} {ys : Ys} {gs : List GoTy.T} {number v v' : Int} {zs zs' : Ys} {hs hs' : List GoTy.T} {rn rn' : Int} {dat dat' : List UInt8} {many many' : Int} (h : EndRel x ys gs number v zs hs rn dat many) (h' : EndRel x ys gs number v' zs' hs' rn' dat' many') : v = v' ∧ zs = zs' ∧ hs = hs' ∧ rn = rn' ∧ dat = dat' ∧ many = many' := by
  rcases h with ⟨h1, rfl, rfl, rfl, rfl, rfl, rfl⟩ | ⟨h1, h2, rfl, rfl, rfl, rfl, rfl, rfl⟩ | ⟨h1, ⟨j, hj, h2, h3⟩, rfl, rfl, rfl, rfl, rfl, rfl⟩ | ⟨h1, ⟨j, hj, h2, h3, rfl⟩, rfl, rfl⟩ <;>
    rcases h' with ⟨k1, rfl, rfl, rfl, rfl, rfl, rfl⟩ | ⟨k1, k2, rfl, rfl, rfl, rfl, rfl, rfl⟩ | ⟨k1, ⟨i, hi, k2, k3⟩, rfl, rfl, rfl, rfl, rfl, rfl⟩ | ⟨k1, ⟨i, hi, k2, k3, rfl⟩, rfl, rfl⟩ <;>
    first
      | exact ⟨rfl, rfl, rfl, rfl, rfl, rfl⟩
      | exact absurd h1 k1
      | exact absurd k1 h1
      | exact absurd h2 (k2 _ hj)
      | exact absurd k2 (h2 _ hi)
      | (obtain rfl := h1.one hi hj (k2.trans h2.symm)
         rw [h3] at k3
         cases k3 <;> exact ⟨rfl, rfl, rfl, rfl, rfl, rfl⟩)
end Go.Proofs.Ytclbihcggjjgaaa
/- Layer 30 (model): the program: a block's first values go, and marks move along. -/
namespace Go.Proofs.Ytclbihcggjjgaaa
open Go Go.RowKit
set_option linter.unusedSimpArgs false
set_option linter.unusedVariables false

/-- what a call that works on its own leaves -/
structure Kp (lo : Nat) (w w' : World) : Prop where
  below : Below lo w w'
  box : ∀ (b : Nat) (cs : Array Value) (t : TypeId), BoxOf w b cs t → t ≠ 30 → t ≠ 29 → t ≠ 3 → BoxOf w' b cs t
theorem Kp.refl (lo : Nat) (w : World) : Kp lo w w := ⟨Below.refl _ _, fun _ _ _ h _ _ _ => h⟩
theorem Kp.trans {lo : Nat} {a b c : World} (h : Kp lo a b) (k : Kp lo b c) : Kp lo a c := ⟨h.below.trans k.below, fun g cs t h1 h2 h3 h4 => k.box g cs t (h.box g cs t h1 h2 h3 h4) h2 h3 h4⟩
theorem Kp.of_below {lo : Nat} {w w' : World} (h : Below w.heap.size w w') (hl : lo ≤ w.heap.size) : Kp lo w w' := ⟨h.mono hl, fun g cs t h1 _ _ _ => h1.next h⟩
theorem Kp.of_but {lo : Nat} {w w' : World} {t : TypeId} (h : Below lo w w') (hb : But t w w') (ht : t = 30 ∨ t = 29 ∨ t = 3) : Kp lo w w' := ⟨h, fun g cs t' h1 h2 h3 h4 => h1.but hb (by rcases ht with rfl | rfl | rfl <;> assumption)⟩
theorem But.setCell {w : World} {g i : Nat} {cs : Array Value} {t : TypeId} (h : BoxOf w g cs t) (v : Value) : But t w (w.setCell ⟨g, i, none⟩ v) := fun b hb => by
  by_cases e : b = g
  · exact .inr ⟨cs, e ▸ h⟩
  · exact .inl (Below.heap_setCell _ _ _ _ e)
theorem But.grown {w w' : World} {g : Nat} {cs : Array Value} {t : TypeId} (h : BoxOf w g cs t) (hg : w.grownBy w' (some g)) : But t w w' := fun b hb => by
  by_cases e : b = g
  · exact .inr ⟨cs, e ▸ h⟩
  · exact .inl (hg.block b hb (fun e' => e (Option.some.inj e')))
/-- marks, so far -/
def dropJ (b many j : Nat) (gs : List GoTy.T) : List GoTy.T := (gs.take j).map (dropMk b many) ++ gs.drop j
theorem dropJ_all {b many j : Nat} {gs : List GoTy.T} (h : ¬ j < gs.length) : dropJ b many j gs = dropG b many gs := by
  unfold dropJ dropG
  rw [List.take_of_length_le (by omega), List.drop_of_length_le (by omega), List.append_nil]
theorem dropJ_len (b many j : Nat) (gs : List GoTy.T) : (dropJ b many j gs).length = gs.length := by
  unfold dropJ
  rw [List.length_append, List.length_map, List.length_take, List.length_drop]
  omega
theorem dropJ_at {b many j : Nat} {gs : List GoTy.T} (h : j < gs.length) (h' : j < (dropJ b many j gs).length) : (dropJ b many j gs)[j] = gs[j] := by
  have e : (dropJ b many j gs)[j]? = gs[j]? := by
    unfold dropJ
    rw [List.getElem?_append_right (by rw [List.length_map, List.length_take]; omega), List.getElem?_drop, List.length_map, List.length_take, show j + (j - min j gs.length) = j by omega]
  rw [List.getElem?_eq_getElem h', List.getElem?_eq_getElem h] at e
  exact Option.some.inj e
theorem dropJ_step {b many j : Nat} {gs : List GoTy.T} (h : j < gs.length) : dropJ b many (j + 1) gs = (dropJ b many j gs).set j (dropMk b many gs[j]) := by
  unfold dropJ
  rw [List.set_append_right _ _ (by rw [List.length_map, List.length_take]; omega), List.take_succ_eq_append_getElem h, List.map_append, List.append_assoc]
  congr 1
  rw [List.length_map, List.length_take, show j - min j gs.length = 0 by omega, List.drop_eq_getElem_cons h]
  rfl
theorem dropMk_some {b many : Nat} {g : GoTy.T} {x : Int} (h : b < (mksOf g).length) (hx : x = max 0 ((mksOf g)[b] - (many : Int))) : setMks g ((mksOf g).set b x) = dropMk b many g := by
  have hne : mksOf g ≠ [] := fun e => by rw [e] at h; simp at h
  unfold dropMk
  rw [if_neg hne, List.getD_eq_getElem?_getD, List.getElem?_eq_getElem h, hx]
  rfl
theorem dropMk_skip {b many : Nat} {g : GoTy.T} (h : (mksOf g).length = 0) : dropMk b many g = g := if_pos (List.eq_nil_of_length_eq_zero h)
/-- what 'drop' leaves -/
def DropIs (By : Nat → Prop) (lo R : Nat) (B : Option Addr) (d : Nat) (ys : Ys) (gs : List GoTy.T) (w w' : World) : Prop :=
  Kp lo w w' ∧ MayS w' By lo R ys ∧ GoS w' By lo B d gs ∧ ∀ b, By b → w'.heap[b]? = w.heap[b]?

theorem drop_mid {By : Nat → Prop} {lo R : Nat} {B : Option Addr} {d : Nat} {ys : Ys} {gs : List GoTy.T} {b many : Nat} {w : World} (hM : MayS w By lo R ys) (hG : GoS w By lo B d gs) (hBy : ∀ b, By b → b < w.heap.size) (hb : b < ys.length) (hm : many ≤ (ys[b]).length) :
    ∃ g o c, w.cell? ⟨R, b, none⟩ = some (.slice (some ⟨g, o, none⟩) (ys[b]).length c) ∧ (lo ≤ R ∧ ∃ cur : Array Value,
      Calls Try.prog 88 #[.slice (some ⟨g, o, none⟩) (ys[b]).length c, .int .i64 0, .int .i64 (many : Int)] w (fun e w' => e = .returned (.slice (some ⟨g, o, none⟩) ((ys[b]).length - many) c) ∧ DelIs g o 1 (ys[b]).length 0 many cur 29 w w') ∧
      ∀ w1, DelIs g o 1 (ys[b]).length 0 many cur 29 w w1 → ∃ cs : Array Value, BoxOf w1 R cs 30 ∧ b < cs.size ∧ DropIs By lo R B d (dropY b many ys) gs w (w1.setCell ⟨R, b, none⟩ (.slice (some ⟨g, o, none⟩) ((ys[b]).length - many) c))) := by
  obtain ⟨cells, g, o, c, q1, q2, q3, q4, q5⟩ := hM.row hb
  obtain ⟨cur, k1, k2, k3, k4, k5, k6⟩ := q4
  refine ⟨g, o, c, by rw [q1.cell]; exact q3, q2.1, cur, ?_, fun w1 hD => ?_⟩
  · have h := delL_any g o (ys[b]).length c 0 many cur w k1 k2 k3 (by rw [Nat.mul_one]; exact k4) (Nat.zero_le _) hm (fun q hq => by
      rw [Nat.mul_one] at hq
      obtain ⟨u, h1, h2⟩ := k6 q hq
      exact ⟨u, h1, RdIn.plain _ h2 u (by simp)⟩)
    rw [Nat.sub_zero] at h
    exact h
  · obtain ⟨hg, cur', d1, d2, d3⟩ := hD
    have hgR : g ≠ R := box_diff k1 q1 (by decide)
    have r1 : BoxOf w1 R cells 30 := q1.grown hg (fun e => hgR (Option.some.inj e))
    have hbc : b < cells.size := by have := (List.getElem?_eq_some_iff.1 q3).1; rwa [Array.length_toList] at this
    have hf : ∀ k, k < w.heap.size → k ≠ R → k ≠ g → (w1.setCell ⟨R, b, none⟩ (.slice (some ⟨g, o, none⟩) ((ys[b]).length - many) c)).heap[k]? = w.heap[k]? := fun k hk h1 h2 =>
      (Below.heap_setCell _ _ _ _ h1).trans (hg.block k hk (fun e => h2 (Option.some.inj e)))
    have hB2 : ∀ k, By k → (w1.setCell ⟨R, b, none⟩ (.slice (some ⟨g, o, none⟩) ((ys[b]).length - many) c)).heap[k]? = w.heap[k]? := fun k hk => hf k (hBy k hk) (fun e => q2.2 (e ▸ hk)) (fun e => k5.2 (e ▸ hk))
    have hs := msize w1 ⟨R, b, none⟩ (.slice (some ⟨g, o, none⟩) ((ys[b]).length - many) c)
    have kp : Kp lo w (w1.setCell ⟨R, b, none⟩ (.slice (some ⟨g, o, none⟩) ((ys[b]).length - many) c)) := by
      refine ⟨⟨hg.os, hg.tape, hg.output, by rw [hs]; exact hg.size, fun k hk => ?_⟩, fun k cs t h1 h2 h3 h4 => ?_⟩
      · by_cases hk2 : k < w.heap.size
        · exact hf k hk2 (fun e => by have := q2.1; omega) (fun e => by have := k5.1; omega)
        · have := q1.lt
          have := q2.1
          omega
      · exact BoxOf.but (BoxOf.but h1 (But.grown k1 hg) h3) (But.setCell r1 _) h2
    refine ⟨cells, r1, hbc, kp, ?_, ?_, hB2⟩
    · have hl : (((ys[b]).drop many).length) = (ys[b]).length - many := List.length_drop
      have e1 : dropY b many ys = ys.set b ((ys[b]).drop many) := by unfold dropY; rw [getD_lt hb]
      rw [e1]
      refine q5 _ By g o c ((ys[b]).drop many) (fun k hk h1 h2 => hf k hk h1 h2) ?_ ?_ (.inl rfl) (fun k hk => ⟨hBy k hk, hk⟩) (fun k _ h => h)
      · rw [hl]
        exact mbox_self r1 b _
      · refine ⟨cur', mbox_else d1 hgR b _, by rw [hl]; omega, k3, by rw [d2]; exact k4, k5, fun k hk => ?_⟩
        rw [hl] at hk
        obtain ⟨u, h1, h2⟩ := k6 (many + k) (by omega)
        refine ⟨u, ?_, ?_⟩
        · rw [d3 k (by omega), if_neg (by omega), Nat.sub_zero, Nat.mul_one, Nat.add_comm k many]
          exact h1
        · rw [List.getElem_drop]
          exact h2.frame hB2
    · have g1 : GoS w1 By lo B d gs := hG.but (t := 29) (by decide) (by decide) (But.grown k1 hg) (fun k hk => hg.block k (hBy k hk) (fun e => k5.2 ((Option.some.inj e) ▸ hk))) (fun _ h => h) (fun _ _ h => h)
      exact g1.but (t := 30) (by decide) (by decide) (But.setCell r1 _) (fun k hk => Below.heap_setCell _ _ _ _ (fun e => q2.2 (by have e' : k = R := e; exact e' ▸ hk))) (fun _ h => h) (fun _ _ h => h)

theorem DropIs.step {By : Nat → Prop} {lo R : Nat} {B : Option Addr} {d : Nat} {ys ys' : Ys} {gs gs' : List GoTy.T} {w w' w'' : World} (h : DropIs By lo R B d ys gs w w') (h2 : DropIs By lo R B d ys' gs' w' w'') : DropIs By lo R B d ys' gs' w w'' :=
  ⟨h.1.trans h2.1, h2.2.1, h2.2.2.1, fun b hb => (h2.2.2.2 b hb).trans (h.2.2.2 b hb)⟩
theorem DropIs.next {By : Nat → Prop} {lo R : Nat} {B : Option Addr} {d : Nat} {ys : Ys} {gs : List GoTy.T} {w w' w'' : World} (h : DropIs By lo R B d ys gs w w') (hb : Below w'.heap.size w' w'') (hlo : lo ≤ w.heap.size) (hBy : ∀ b, By b → b < w.heap.size) : DropIs By lo R B d ys gs w w'' := by
  have hs := h.1.below.size
  have hBy' : ∀ b, By b → b < w'.heap.size := fun b hb => Nat.lt_of_lt_of_le (hBy b hb) hs
  exact h.step ⟨Kp.of_below hb (by omega), h.2.1.mono hb hBy' (fun _ h => h) (fun _ _ h => h), h.2.2.1.mono hb hBy' (fun _ h => h) (fun _ _ h => h), fun b hb' => hb.block b (hBy' b hb')⟩
/-- a mark turns -/
theorem DropIs.mark {By : Nat → Prop} {lo R : Nat} {B : Option Addr} {d : Nat} {ys : Ys} {gs gs' : List GoTy.T} {w w' : World} {b i : Nat} {cur : Array Value} {v : Value} (h : DropIs By lo R B d ys gs w w') (hb : BoxOf w' b cur 3) (hl : lo ≤ b ∧ ¬ By b) (hg : GoS (w'.setCell ⟨b, i, none⟩ v) By lo B d gs') : DropIs By lo R B d ys gs' w (w'.setCell ⟨b, i, none⟩ v) := by
  have hB : ∀ k, By k → (w'.setCell ⟨b, i, none⟩ v).heap[k]? = w'.heap[k]? := fun k hk => Below.heap_setCell _ _ _ _ (fun e => hl.2 (by have e' : k = b := e; exact e' ▸ hk))
  exact h.step ⟨Kp.of_but (Below.setCell (Below.refl _ _) hl.1 v) (But.setCell hb v) (.inr (.inr rfl)), h.2.1.but (by decide) (by decide) (But.setCell hb v) hB, hg, hB⟩
theorem DropIs.cast {By : Nat → Prop} {lo R : Nat} {B : Option Addr} {d : Nat} {ys : Ys} {gs gs' : List GoTy.T} {w w' : World} (h : DropIs By lo R B d ys gs w w') (e : gs = gs') : DropIs By lo R B d ys gs' w w' := e ▸ h

set_option maxRecDepth 100000 in
set_option maxHeartbeats 400000 in
theorem sdrop_any (By : Nat → Prop) (lo R cR : Nat) (B : Option Addr) (d : Nat) (ys : Ys) (gs : List GoTy.T) (pb b many : Nat) (w : World) (hP : BoxOf w pb #[.slice (some ⟨R, 0, none⟩) ys.length cR, .slice B gs.length d] 28) (hM : MayS w By lo R ys) (hG : GoS w By lo B d gs) (hBy : ∀ b, By b → b < w.heap.size) (hlo : lo ≤ w.heap.size) (hb : b < ys.length) (hm : many ≤ (ys[b]).length ∧ many ≤ 1000)
    (hmk : ∀ j (h : j < gs.length), (mksOf gs[j] = [] ∨ (mksOf gs[j]).length = ys.length) ∧ ∀ q (h' : q < (mksOf gs[j]).length), 0 ≤ (mksOf gs[j])[q] ∧ (mksOf gs[j])[q] ≤ 1000) (hgl : gs.length ≤ 8) :
    Calls Try.prog 78 #[.pointer (some ⟨pb, 0, none⟩), .int .i64 (b : Int), .int .i64 (many : Int)] w fun e w' => (∃ v, e = .returned v) ∧ DropIs By lo R B d (dropY b many ys) (dropG b many gs) w w' := by
  obtain ⟨g, o, c, hRb, hlR, cur, hcall, hmid⟩ := drop_mid hM hG hBy hb hm.1
  have HCD := Lib.hid hcall
  have HMID := Lib.hid hmid
  have HMK := Lib.hid hmk
  have hp := hP.cell
  clear hM hG hcall hmid hmk
  obtain ⟨n, hn⟩ : ∃ n, n = (ys[b]).length := ⟨_, rfl⟩
  rw [← hn] at HCD HMID hRb
  have HN := Lib.hid hn
  have HM2 := Lib.hid hm
  have HB2 := Lib.hid hBy
  have HGL := Lib.hid hgl
  have HLO := Lib.hid hlo
  clear hn hm hBy hgl hlo hlR
  go_enter Try.func78, Try.ntmps78
  go_wp2_with fail
  refine HCD.out.mono ?_
  rintro e w1 ⟨rfl, hd1⟩
  obtain ⟨cs, r1, hbc, hD⟩ := HMID.out w1 hd1
  have rc : w1.cell? ⟨R, b, none⟩ = some cs[b] := by rw [r1.cell, List.getElem?_eq_getElem (by rw [Array.length_toList]; exact hbc)]; rfl
  have rf := r1.free
  have HBC := Lib.hid hbc
  have HD := Lib.hid hD
  have HR1 := Lib.hid r1
  generalize cs[b] = old at rc
  clear hbc hD hd1 r1 HMID HCD
  go_upto_region 2 with fail
  clear rc rf hRb hp
  have hD2 := HD.out
  generalize w1.setCell ⟨R, b, none⟩ (.slice (some ⟨g, o, none⟩) (n - many) c) = w2 at *
  clear HD HR1
  have hp := (hD2.1.box _ _ _ hP (by decide) (by decide) (by decide)).cell
  go_wp2
  clear hp
  go_loopw [27] (fun i wr => ∃ (j : Nat), j ≤ gs.length ∧ i = .int .i64 j ∧ DropIs By lo R B d (dropY b many ys) (dropJ b many j gs) w wr) (fun i _ => gs.length - (intOf i).toNat)
  case atStart => exact ⟨0, by omega, rfl, hD2⟩
  case round =>
    obtain ⟨j, hj, rfl, hDr⟩ := hrel
    clear hD2
    by_cases hlt : j < gs.length
    · have hlj : j < (dropJ b many j gs).length := by rw [dropJ_len]; exact hlt
      obtain ⟨G, go, gcells, Ab, cb, Am, cm, rfl, g1, ⟨c0, c1, c2, c3, c4, c5⟩, g2, g3, g4, g5, g6⟩ := hDr.2.2.1.mark hlj
      rw [dropJ_at hlt] at c0 c1 c2 c3 c4 c5 g2 g3 g4 g5 g6
      have HSTEP := Lib.hid (dropJ_step (b := b) (many := many) hlt)
      have HMJ := Lib.hid (HMK.out j hlt)
      generalize hgj : gs[j] = gj at *
      have HGJ := Lib.hid hgj
      have HDR := Lib.hid hDr
      have HG6 := Lib.hid g6
      have HWJ := next_wrap (show gs.length ≤ maxLen by have := HGL.out; unfold maxLen; omega) hlt
      have HLJ := Lib.hid hlt
      clear g1 g2 g3 g4 g5 g6 hgj hDr hj hlj
      have X0 := BoxOf.new wr #[.int .i64 (nuOf gj), .int .u8 ((kiOf gj).toNat : Int), .int .i64 (atOf gj), .int .i64 (manyOf gj), .slice Ab (datOf gj).length cb, .slice Am (mksOf gj).length cm] 64
      have t0 := Ext.alloc (Below.refl wr.heap.size wr) (.cells #[.int .i64 (nuOf gj), .int .u8 ((kiOf gj).toNat : Int), .int .i64 (atOf gj), .int .i64 (manyOf gj), .slice Ab (datOf gj).length cb, .slice Am (mksOf gj).length cm] 64)
      go_upto_region 5 with fail
      generalize wr.alloc (.cells #[.int .i64 (nuOf gj), .int .u8 ((kiOf gj).toNat : Int), .int .i64 (atOf gj), .int .i64 (manyOf gj), .slice Ab (datOf gj).length cb, .slice Am (mksOf gj).length cm] 64) = wa at *
      have x0 := X0.cell
      have HDA := Lib.hid (HDR.out.next t0 HLO.out HB2.out)
      rcases Nat.eq_zero_or_pos (mksOf gj).length with hz | hz
      · have HZ := Lib.hid hz
        have e0 : decide ((0 : Int) < ((mksOf gj).length : Int)) = false := by rw [hz]; rfl
        rw [hz] at x0
        clear hz
        go_wp2
        go_roundw
        case rel =>
          refine ⟨j + 1, HLJ.out, by first | exact round_same HWJ | go_num, HDA.out.cast ?_⟩
          rw [HSTEP.out, dropMk_skip HZ.out]
          have h1 := dropJ_at (b := b) (many := many) HLJ.out (by rw [dropJ_len]; exact HLJ.out)
          rw [HGJ.out] at h1
          rw [← h1, List.set_getElem_self]
        case measure => first | exact round_less HWJ HLJ.out | (have h := HLJ.out; simp [intOf]; omega)
      · obtain ⟨mb, oo, mcur, rfl, m1, m2, m3, m4⟩ := HG6.out hz
        have hbl : b < (mksOf gj).length := by
          rcases HMJ.out.1 with h | h
          · rw [h] at hz; simp at hz
          · rw [h]; exact hb
        have hm5 := HMJ.out.2 b hbl
        have m6 := m3 b hbl
        have HM4 := Lib.hid m4
        have HM1 := Lib.hid (m1.next t0)
        have HM22 := Lib.hid m2
        have hmn : mb < wr.heap.size := m1.lt
        have m7 : wa.cell? ⟨mb, oo + b, none⟩ = some (.int .i64 (mksOf gj)[b]) := (t0.cell (p := ⟨mb, oo + b, none⟩) hmn).trans m6
        have e0 : decide ((0 : Int) < ((mksOf gj).length : Int)) = true := decide_eq_true (by omega)
        have HBL := Lib.hid hbl
        generalize hmv : (mksOf gj)[b] = mv at *
        have HMV := Lib.hid hmv
        have HM5 := Lib.hid hm5
        have e1 : IntKind.i64.wrap (mv - (many : Int)) = mv - (many : Int) := i64_fit (by have := HM2.out; omega)
        clear hmv m1 m2 m3 m4 m6 hz hmn
        go_upto_region 6 with fail
        have Xd := X0.drew
        have m8 : wa.drew.cell? ⟨mb, oo + b, none⟩ = some (.int .i64 mv) := m7
        refine wp_region_held_drew (S := fun w' => ∀ o, w'.cell? ⟨wr.heap.size, o, none⟩ = (#[.int .i64 (nuOf gj), .int .u8 ((kiOf gj).toNat : Int), .int .i64 (atOf gj), .int .i64 (manyOf gj), .slice Ab (datOf gj).length cb, .slice (some ⟨mb, oo, none⟩) (mksOf gj).length cm] : Array Value).toList[o]?) (by kernel_rfl) Xd.cell (fun hS => ?_)
        clear x0 m7
        refine wpAnyH_take (i := 0) (oi := _) (v := ?_) rfl (by kernel_rfl) (by kernel_rfl) (by kernel_rfl) (fun _ _ _ h => h) (Or.inl ⟨by rfl, ?_⟩) hS ?_
        rotate_left
        · (intro w hSw; (try dsimp only at hSw); go_simp; (try with_reducible rfl))
        rotate_left
        simp only [Act.put, List.getElem_toArray, List.getElem_cons_zero, List.getElem_cons_succ, List.setIfInBounds_toArray, List.set_cons_zero, List.set_cons_succ]
        refine wpAnyH_take (i := 1) (oi := _) (v := ?_) rfl (by kernel_rfl) (by kernel_rfl) (by kernel_rfl) (fun _ _ _ h => h) (Or.inl ⟨by rfl, ?_⟩) hS ?_
        rotate_left
        · (intro w hSw; (try dsimp only at hSw); go_simp; (try with_reducible rfl))
        rotate_left
        simp only [Act.put, List.getElem_toArray, List.getElem_cons_zero, List.getElem_cons_succ, List.setIfInBounds_toArray, List.set_cons_zero, List.set_cons_succ]
        refine wpAnyH_take (i := 2) (oi := _) (v := ?_) rfl (by kernel_rfl) (by kernel_rfl) (by kernel_rfl) (fun _ _ _ h => h) (Or.inl ⟨by rfl, ?_⟩) hS ?_
        rotate_left
        · (intro w hSw; (try dsimp only at hSw); go_simp; (try with_reducible rfl))
        rotate_left
        simp only [Act.put, List.getElem_toArray, List.getElem_cons_zero, List.getElem_cons_succ, List.setIfInBounds_toArray, List.set_cons_zero, List.set_cons_succ]
        refine wpAnyH_take (i := 3) (oi := _) (v := ?_) rfl (by kernel_rfl) (by kernel_rfl) (by kernel_rfl) (fun _ _ _ h => h) (Or.inl ⟨by rfl, ?_⟩) hS ?_
        rotate_left
        · (intro w hSw; (try dsimp only at hSw); go_simp; (try with_reducible rfl))
        rotate_left
        simp only [Act.put, List.getElem_toArray, List.getElem_cons_zero, List.getElem_cons_succ, List.setIfInBounds_toArray, List.set_cons_zero, List.set_cons_succ]
        refine wpAnyH_take (i := 4) (oi := _) (v := ?_) rfl (by kernel_rfl) (by kernel_rfl) (by kernel_rfl) (fun _ _ _ h => h) (Or.inl ⟨by rfl, ?_⟩) hS ?_
        rotate_left
        · (intro w hSw; (try dsimp only at hSw); go_simp; (try with_reducible rfl))
        rotate_left
        simp only [Act.put, List.getElem_toArray, List.getElem_cons_zero, List.getElem_cons_succ, List.setIfInBounds_toArray, List.set_cons_zero, List.set_cons_succ]
        refine wpAnyH_take (i := 5) (oi := _) (v := ?_) rfl (by kernel_rfl) (by kernel_rfl) (by kernel_rfl) (fun _ _ _ h => h) (Or.inl ⟨by rfl, ?_⟩) hS ?_
        rotate_left
        · (intro w hSw; (try dsimp only at hSw); go_simp; (try with_reducible rfl))
        rotate_left
        simp only [Act.put, List.getElem_toArray, List.getElem_cons_zero, List.getElem_cons_succ, List.setIfInBounds_toArray, List.set_cons_zero, List.set_cons_succ]
        refine wpAnyH_take (i := 6) (oi := _) (v := ?_) rfl (by kernel_rfl) (by kernel_rfl) (by kernel_rfl) (fun _ _ _ h => h) (Or.inl ⟨by rfl, ?_⟩) hS ?_
        rotate_left
        · (intro w hSw; (try dsimp only at hSw); go_simp; (try with_reducible rfl))
        rotate_left
        simp only [Act.put, List.getElem_toArray, List.getElem_cons_zero, List.getElem_cons_succ, List.setIfInBounds_toArray, List.set_cons_zero, List.set_cons_succ]
        refine wpAnyH_take (i := 8) (oi := _) (v := ?_) rfl (by kernel_rfl) (by kernel_rfl) (by kernel_rfl) (fun _ _ _ h => h) (Or.inl ⟨by rfl, ?_⟩) hS ?_
        rotate_left
        · (intro w hSw; (try dsimp only at hSw); go_simp; (try with_reducible rfl))
        rotate_left
        simp only [Act.put, List.getElem_toArray, List.getElem_cons_zero, List.getElem_cons_succ, List.setIfInBounds_toArray, List.set_cons_zero, List.set_cons_succ]
        refine wpAnyH_ready (rs := [7]) (by kernel_rfl) (by simp) ?_
        refine AllReadyH.cons rfl (fun K hK => ?_) AllReadyH.nil
        rw [if_pos (by rfl)]
        go_simp
        refine hK.out _ _ Xd.cell (fun hS' => ?_)
        clear hK K hS
        have hS := hS'
        clear hS'
        try simp only [Act.put, List.getElem_toArray, List.getElem_cons_zero, List.getElem_cons_succ, List.setIfInBounds_toArray, List.set_cons_zero, List.set_cons_succ]
        refine wpAnyH_take (i := 9) (oi := _) (v := ?_) rfl (by kernel_rfl) (by kernel_rfl) (by kernel_rfl) (fun _ _ _ h => h) (Or.inl ⟨by rfl, ?_⟩) hS ?_
        rotate_left
        · (intro w hSw; (try dsimp only at hSw); go_simp; (try with_reducible rfl))
        rotate_left
        simp only [Act.put, List.getElem_toArray, List.getElem_cons_zero, List.getElem_cons_succ, List.setIfInBounds_toArray, List.set_cons_zero, List.set_cons_succ]
        refine wpAnyH_take (i := 10) (oi := _) (v := ?_) rfl (by kernel_rfl) (by kernel_rfl) (by kernel_rfl) (fun _ _ _ h => h) (Or.inl ⟨by rfl, ?_⟩) hS ?_
        rotate_left
        · (intro w hSw; (try dsimp only at hSw); go_simp; (try with_reducible rfl))
        rotate_left
        simp only [Act.put, List.getElem_toArray, List.getElem_cons_zero, List.getElem_cons_succ, List.setIfInBounds_toArray, List.set_cons_zero, List.set_cons_succ]
        refine wpAnyH_take (i := 11) (oi := _) (v := ?_) rfl (by kernel_rfl) (by kernel_rfl) (by kernel_rfl) (fun _ _ _ h => h) (Or.inl ⟨by rfl, ?_⟩) hS ?_
        rotate_left
        · (intro w hSw; (try dsimp only at hSw); go_simp; (try with_reducible rfl))
        rotate_left
        simp only [Act.put, List.getElem_toArray, List.getElem_cons_zero, List.getElem_cons_succ, List.setIfInBounds_toArray, List.set_cons_zero, List.set_cons_succ]
        refine wpAnyH_ready (rs := [12]) (by kernel_rfl) (by simp) ?_
        refine AllReadyH.cons rfl (fun K hK => ?_) AllReadyH.nil
        rw [if_pos (by rfl)]
        have mf := (HM1.out.drew).free
        have hXm : wr.heap.size ≠ mb := box_diff Xd HM1.out.drew (by decide)
        go_simp
        have Xe := mbox_else Xd hXm (oo + b) (.int .i64 (max 0 (mv - (many : Int))))
        refine hK.out _ _ Xe.cell (fun hS' => ?_)
        clear hK K hS hS' mf
        try simp only [Act.put, List.getElem_toArray, List.getElem_cons_zero, List.getElem_cons_succ, List.setIfInBounds_toArray, List.set_cons_zero, List.set_cons_succ]
        refine wpAnyH_done (by kernel_rfl) ?_ _
        have HDE : Hid (DropIs By lo R (some ⟨G, go, none⟩) d (dropY b many ys) (dropJ b many (j + 1) gs) w (wa.setCell ⟨mb, oo + b, none⟩ (.int .i64 (max 0 (mv - (many : Int))))).drew) := by
          show DropIs By lo R (some ⟨G, go, none⟩) d (dropY b many ys) (dropJ b many (j + 1) gs) w (wa.drew.setCell ⟨mb, oo + b, none⟩ (.int .i64 (max 0 (mv - (many : Int)))))
          have td := Ext.drew t0
          have hs := HDR.out.1.below.size
          have hgo := HM4.out wa.drew b (max 0 (mv - (many : Int))) td (fun k hk => Nat.lt_of_lt_of_le (HB2.out k hk) hs) HBL.out (by have := HM2.out; have := HM5.out; constructor <;> omega)
          refine ((HDR.out.next td HLO.out HB2.out).mark HM1.out.drew HM22.out hgo).cast ?_
          rw [HSTEP.out]
          congr 1
          exact dropMk_some HBL.out (congrArg (fun z => max 0 (z - (many : Int))) HMV.out.symm)
        generalize (wa.setCell ⟨mb, oo + b, none⟩ (.int .i64 (max 0 (mv - (many : Int))))).drew = wz at *
        clear m8 Xd Xe t0 X0 hXm
        go_wp2
        go_roundw
        case rel => exact ⟨j + 1, HLJ.out, by first | exact round_same HWJ | go_num, HDE.out⟩
        case measure => first | exact round_less HWJ HLJ.out | (have h := HLJ.out; simp [intOf]; omega)
    · have HDE := Lib.hid (hDr.cast (dropJ_all hlt))
      go_wp2
      refine bodyPost_end (results_none rfl _ _ _) rfl ?_
      exact ⟨⟨_, rfl⟩, HDE.out⟩
end Go.Proofs.Ytclbihcggjjgaaa
/- Layer 30 (model): the program: a value comes behind a row's; the state of a plain array while a request ends. -/
namespace Go.Proofs.Ytclbihcggjjgaaa
open Go Go.RowKit
set_option linter.unusedSimpArgs false
set_option linter.unusedVariables false

/-- a value comes behind a row's -/
theorem wpList_pushS {P : Program} {w : World} {ops : Array Oper} {rest : List Oper} {op : Oper} {a : Act} {Q : Exit → Act → World → Prop} (hgd : op.guard = none) (s x : Operand) (t : TypeId)
    (hop : op.op = .call { callee := .builtin .append, args := #[s, x], argTypes := #[t, t] })
    (i : TypeInfo) (z : Value) (ht : P.underlying t = some (.slice 29)) (hi : P.info? 29 = some i) (hz : i.zero = some z) (hsize : i.size = 1) (hby : i.bytes = 24) (hzs : z.cells.size = 1)
    (By : Nat → Prop) (lo g o c : Nat) (zs : List (List UInt8)) (hrow : RowS w By lo g o c zs) (hs : a.eval s = .slice (some ⟨g, o, none⟩) zs.length c)
    (q k : Nat) (u : Value) (hx : a.eval x = .slice (some ⟨q, 0, none⟩) 1 k) (hq : w.cell? ⟨q, 0, none⟩ = some u) (v : List UInt8) (hu : RdIn w By (.sl .byte) v [u]) (hBy : ∀ b, By b → b < w.heap.size) (hl : zs.length ≤ 1000) (hlo : lo ≤ w.heap.size)
    (h : ∀ w' g' o' c', RowS w' By lo g' o' c' (zs ++ [v]) → (g' = g ∨ w.heap.size ≤ g') → w.grownBy w' (some g) → wpList P ops Q rest (a.put op.dst (.slice (some ⟨g', o', none⟩) (zs.length + 1) c')) w') : wpList P ops Q (op :: rest) a w := by
  obtain ⟨cur, k1, k2, k3, k4, k5, k6⟩ := hrow
  have hcl : cur.toList.length = cur.size := Array.length_toList
  have hu1 : u.oneCell' = true := RdIn.plain _ hu u (by simp)
  refine wpList_append_arg w hgd s x t hop 29 i z 1 24 ht hi hz hsize hby hzs (by decide) g o zs.length c ((cur.toList.drop o).take zs.length) hs ?_ ?_ ⟨q, 0, none⟩ 1 k [u] hx rfl ?_ ?_ ?_ ?_ ?_ ?_ ?_
  · rw [List.length_take, List.length_drop, hcl]; omega
  · intro j w2 hj
    rw [List.getElem?_take] at hj
    split at hj
    · rw [k1.cell, ← List.getElem?_drop]; exact hj
    · cases hj
  · intro j w2 hj
    have h0 : j = 0 := by have := (List.getElem?_eq_some_iff.1 hj).1; simpa using this
    subst h0
    rw [add_plain]
    rw [← hj]
    exact hq
  · intro w2 h2
    rw [List.mem_singleton.1 h2]
    exact hu1
  · intro hr j hj
    refine ⟨?_, k1.free _⟩
    have hj0 : j = 0 := by simpa using hj
    subst hj0
    rw [k1.cell, List.getElem?_eq_getElem (by rw [hcl]; omega)]
    rfl
  · unfold maxLen; omega
  · omega
  · intro hr
    obtain ⟨cur', d1, d2, d3⟩ := box_setCells [u] (o + zs.length * 1) w cur k1 (by simp; omega)
    have hg := grown_setCells g [u] (o + zs.length * 1) w
    refine h _ g o c ⟨cur', d1, by rw [List.length_append, List.length_singleton]; exact hr, k3, by rw [d2]; exact k4, k5, fun j hj => ?_⟩ (.inl rfl) hg
    have hB : ∀ b, By b → (w.setCells g (o + zs.length * 1) [u]).heap[b]? = w.heap[b]? := fun b hb => hg.block b (hBy b hb) (fun e => k5.2 ((Option.some.inj e) ▸ hb))
    rw [List.length_append, List.length_singleton] at hj
    by_cases hj2 : j < zs.length
    · obtain ⟨u2, e1, e2⟩ := k6 j hj2
      refine ⟨u2, ?_, ?_⟩
      · rw [d3, if_neg (by omega)]; exact e1
      · rw [List.getElem_append_left hj2]; exact e2.frame hB
    · have : j = zs.length := by omega
      subst this
      refine ⟨u, ?_, ?_⟩
      · rw [d3, if_pos (by simp), show o + zs.length - (o + zs.length * 1) = 0 by omega]; rfl
      · rw [List.getElem_append_right (Nat.le_refl _)]
        simp only [Nat.sub_self, List.getElem_singleton]
        exact hu.frame hB
  · intro hg0 v' w' hown hgr
    obtain ⟨g', c', cur', rfl, e1, e2, e3, e4, e5, e6⟩ := own_view hown (by omega)
    have hB : ∀ b, By b → w'.heap[b]? = w.heap[b]? := fun b hb => hgr.block b (hBy b hb) (fun e => by cases e)
    have hg2 : w.grownBy w' (some g) := ⟨hgr.os, hgr.tape, hgr.output, hgr.size, fun b hb _ => hgr.block b hb (fun e => by cases e)⟩
    refine h w' g' 0 c' ⟨cur', e2, by rw [List.length_append, List.length_singleton]; exact e3, e4, by rw [e5]; omega, ⟨by omega, fun hh => by have := hBy _ hh; omega⟩, fun j hj => ?_⟩ (.inr e1) hg2
    rw [List.length_append, List.length_singleton] at hj
    have e7 := e6 j (by omega)
    by_cases hj2 : j < zs.length
    · obtain ⟨u2, f1, f2⟩ := k6 j hj2
      refine ⟨u2, ?_, ?_⟩
      · rw [Nat.zero_add, e7, List.getElem?_append_left (by rw [List.length_take, List.length_drop, hcl]; omega), List.getElem?_take, if_pos hj2, List.getElem?_drop]
        exact f1
      · rw [List.getElem_append_left hj2]; exact f2.frame hB
    · have : j = zs.length := by omega
      subst this
      have hll : ((cur.toList.drop o).take zs.length).length = zs.length := by rw [List.length_take, List.length_drop, hcl]; omega
      refine ⟨u, ?_, ?_⟩
      · rw [Nat.zero_add, e7, List.getElem?_append_right (by rw [hll]; exact Nat.le_refl _), hll, Nat.sub_self]; rfl
      · rw [List.getElem_append_right (Nat.le_refl _)]
        simp only [Nat.sub_self, List.getElem_singleton]
        exact hu.frame hB

/-- a plain array of one's own, on the way -/
def ESt (By0 : Nat → Prop) (lo R : Nat) (B : Option Addr) (d : Nat) (s : Ys × List GoTy.T) (w w' : World) : Prop :=
  ∃ By : Nat → Prop, (∀ b, By0 b → By b) ∧ (∀ b, By b → NewB lo w' b) ∧ Kp lo w w' ∧ MayS w' By lo R s.1 ∧ GoS w' By lo B d s.2 ∧ ∀ b, By0 b → w'.heap[b]? = w.heap[b]?
theorem ESt.start {By : Nat → Prop} {lo R : Nat} {B : Option Addr} {d : Nat} {s : Ys × List GoTy.T} {w : World} (hM : MayS w By lo R s.1) (hG : GoS w By lo B d s.2) (hBy : ∀ b, By b → NewB lo w b) : ESt By lo R B d s w w :=
  ⟨By, fun _ h => h, hBy, Kp.refl _ _, hM, hG, fun _ _ => rfl⟩
theorem newB_next {lo : Nat} {w w' : World} {b : Nat} (h : NewB lo w b) (hs : w.heap.size ≤ w'.heap.size) (hb : w'.heap[b]? = w.heap[b]?) : NewB lo w' b := by
  obtain ⟨h1, h2, cs, t, h3⟩ := h
  exact ⟨h1, by omega, cs, t, by rw [hb]; exact h3⟩
theorem ESt.next {By0 : Nat → Prop} {lo R : Nat} {B : Option Addr} {d : Nat} {s : Ys × List GoTy.T} {w w' w'' : World} (h : ESt By0 lo R B d s w w') (hb : Below w'.heap.size w' w'') (hlo : lo ≤ w'.heap.size) : ESt By0 lo R B d s w w'' := by
  obtain ⟨By, h1, h2, h3, h4, h5, h6⟩ := h
  have hlt : ∀ b, By b → b < w'.heap.size := fun b hb => (h2 b hb).2.1
  exact ⟨By, h1, fun b hB => newB_next (h2 b hB) hb.size (hb.block b (hlt b hB)), h3.trans (Kp.of_below hb hlo), h4.mono hb hlt (fun _ h => h) (fun _ _ h => h), h5.mono hb hlt (fun _ h => h) (fun _ _ h => h), fun b hB => (hb.block b (hlt b (h1 b hB))).trans (h6 b hB)⟩
theorem ESt.cast {By0 : Nat → Prop} {lo R : Nat} {B : Option Addr} {d : Nat} {s s' : Ys × List GoTy.T} {w w' : World} (h : ESt By0 lo R B d s w w') (e : s = s') : ESt By0 lo R B d s' w w' := e ▸ h
/-- what 'drop' asks -/
def Fit (s : Ys × List GoTy.T) : Prop := s.2.length ≤ 8 ∧ s.1.length ≤ 1000 ∧ ∀ j (h : j < s.2.length), (mksOf s.2[j] = [] ∨ (mksOf s.2[j]).length = s.1.length) ∧ ∀ q (h' : q < (mksOf s.2[j]).length), 0 ≤ (mksOf s.2[j])[q] ∧ (mksOf s.2[j])[q] ≤ 1000
theorem PlainOk.fits {x : Cfg} {s : Ys × List GoTy.T} (h : PlainOk x s.1 s.2) : Fit s := by
  refine ⟨h.few, h.short, fun j hj => ⟨(h.marks hj).1, fun q hq => ?_⟩⟩
  obtain ⟨hq', h1, h2⟩ := (h.marks hj).2 q hq
  have := (h.row hq').2.1
  omega
theorem sdrop_est {By0 : Nat → Prop} {lo R cR : Nat} {B : Option Addr} {d : Nat} {s : Ys × List GoTy.T} {w w' : World} (h : ESt By0 lo R B d s w w') (hlo : lo ≤ w'.heap.size) {pb : Nat} (hP : BoxOf w' pb #[.slice (some ⟨R, 0, none⟩) s.1.length cR, .slice B s.2.length d] 28) (hf : Fit s) {b many : Nat} (hb : b < s.1.length) (hm : many ≤ (s.1[b]).length ∧ many ≤ 1000) :
    Calls Try.prog 78 #[.pointer (some ⟨pb, 0, none⟩), .int .i64 (b : Int), .int .i64 (many : Int)] w' fun e w'' => (∃ v, e = .returned v) ∧ ESt By0 lo R B d (dropS b many s) w w'' ∧ Kp lo w' w'' := by
  obtain ⟨By, h1, h2, h3, h4, h5, h6⟩ := h
  refine (sdrop_any By lo R cR B d s.1 s.2 pb b many w' hP h4 h5 (fun b hb => (h2 b hb).2.1) hlo hb hm hf.2.2 hf.1).mono ?_
  rintro e w'' ⟨hv, k1, k2, k3, k4⟩
  exact ⟨hv, ⟨By, h1, fun b hB => newB_next (h2 b hB) k1.below.size (k4 b hB), h3.trans k1, k2, k3, fun b hB => (k4 b (h1 b hB)).trans (h6 b hB)⟩, k1⟩
end Go.Proofs.Ytclbihcggjjgaaa
