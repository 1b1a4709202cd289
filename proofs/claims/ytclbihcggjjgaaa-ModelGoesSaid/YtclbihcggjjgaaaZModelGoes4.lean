/- What this claim needs of my texts, merged and shortened by a program (part 4). -/
import Derived.Laws.EntriesVeiled
import Derived.BigQuiet
import Derived.Test.YtclbihcggjjgaaaRows
import Derived.Laws.CopyOwn
import Derived.Laws.ResultCell
import Derived.OrdersIn
import Derived.LoopIn
import Derived.OrdersHeld
import Derived.Deep.RegionHeld3
import Derived.Shelf.RegionOpen
import Derived.RangeFuncCalls
import Derived.RangeFuncBox
import Derived.RangeFuncNested
import Derived.RangeFuncBound
import Derived.RangeFuncLeaves
import Derived.Test.YtclbihcggjjgaaaZModelGoes3
namespace Go.Proofs.Ytclbihcggjjgaaa
open Go Go.RowKit
set_option linter.unusedSimpArgs false
set_option linter.unusedVariables false
def AtIs (P : Prop) (e : Ending) : Prop:=∃ n : Int,e = .returned (.int .i64 n) ∧ (0 ≤ n ↔ P)
theorem AtIs.at {P : Prop} {n : Nat} (h : P) : AtIs P (.returned (.int .i64 (n : Int))):=⟨n,rfl,by simp [h]⟩
theorem AtIs.not {P : Prop} (h : ¬ P) : AtIs P (.returned (.int .i64 (-1))):=⟨-1,rfl,by simp [h]⟩
def SomeIs {α : Type} (p : α → Bool) (ys : List α) : Prop:=∃ i,∃ h : i < ys.length,p ys[i] = true
def NotAt {α : Type} (p : α → Bool) (ys : List α) (i : Nat) : Prop:=∀ h : i < ys.length,p ys[i] = false
theorem SomeIs.not {α : Type} {p : α → Bool} {ys : List α} {j : Nat} (h : ∀ i,i < j → NotAt p ys i) (hj : ¬ j < ys.length) : ¬ SomeIs p ys:=by
 rintro ⟨i,hi,h1⟩
 rw [h i (by omega) hi] at h1
 cases h1
def odd128 (bs : List UInt8) : Bool:=(bs.length : Int) != 128
def eqBs (ds : List UInt8) (bs : List UInt8) : Bool:=bs == ds
set_option maxRecDepth 100000 in
set_option maxHeartbeats 2000000 in
theorem idx_check (S : Nat → Prop) (ys : List (List UInt8)) (A : Option Addr) (c : Nat)  (w : World) (hy : RdIn w S (.sl (.sl .byte)) ys [.slice A ys.length c])  :
 Calls Try.prog 74 #[.slice A ys.length c,.func (.func 46) #[] #[]] w fun e w'=>AtIs (SomeIs (odd128) ys) e ∧ Below w.heap.size w w':=by
 have HY:=Lib.hid hy
 have HYM:=Lib.hid (val_max hy)
 skip
 clear hy
 go_enter Try.func74,Try.ntmps74
 go_upto_region 1 with fail
 obtain ⟨W,hW⟩ : ∃ z : World,z = w:=⟨_,rfl⟩
 have b0 : Below W.heap.size W w:=by rw [hW];exact Below.refl _ _
 have HWW:=Lib.hid hW
 rw [← hW] at HY
 clear hW
 go_wp2
 go_loopw [5,8] (fun v i wr=>∃ (j : Nat),j ≤ ys.length ∧ i = .int .i64 j ∧ Below W.heap.size W wr ∧ Hid (∀ i,i < j → NotAt (odd128) ys i)) (fun _ i _=>ys.length - (intOf i).toNat)
 case atStart=>exact ⟨0,by omega,rfl,b0,fun i h=>absurd h (Nat.not_lt_zero _)⟩
 case round=>
  obtain ⟨j,hj,rfl,b1,HA⟩:=hrel
  clear b0
  have bw : Below w.heap.size w wr:=by have:=HWW.out;subst this;exact b1
  by_cases hlt : j < ys.length
  · obtain ⟨b,off,A5,c5,rfl,q5,r5⟩:=val_at (HY.out.below b1) hlt
    have HSK : Hid (NotAt (odd128) ys j ↔ (odd128) ys[j] = false):=⟨fun h=>h hlt,fun h _=>h⟩
    have HSY : Hid ((odd128) ys[j] = true → SomeIs (odd128) ys):=fun h=>⟨j,hlt,h⟩
    generalize ys[j] = bs at *
    have HWJ:=next_wrap HYM.out hlt
    have HLJ:=Lib.hid hlt
    have HR5:=Lib.hid r5
    clear r5
    rcases Bool.eq_false_or_eq_true ((odd128) bs) with e1 | e1
    · have HF:=Lib.hid (HSY.out e1)
      unfold odd128 at e1
      go_wp2
      go_ret
      exact ⟨AtIs.at HF.out,bw⟩
    · have HA' : Hid (∀ i,i < j + 1 → NotAt (odd128) ys i):=by
       intro i hi
       by_cases h : i = j
       · subst h
         exact HSK.out.2 e1
       · exact HA.out i (by omega)
      unfold odd128 at e1
      go_wp2
      go_roundw
      case rel=>exact ⟨j + 1,HLJ.out,by first | exact round_same HWJ | go_num,b1,HA'⟩
      case measure=>first | exact round_less HWJ HLJ.out | (have h:=HLJ.out;simp [intOf];omega)
  · have HN:=Lib.hid (SomeIs.not HA.out hlt)
    go_wp2
    go_ret
    exact ⟨AtIs.not HN.out,bw⟩
theorem has_check (S : Nat → Prop) (ys : List (List UInt8)) (A : Option Addr) (c : Nat)  (w : World) (hy : RdIn w S (.sl (.sl .byte)) ys [.slice A ys.length c])  :
 Calls Try.prog 42 #[.slice A ys.length c,.func (.func 46) #[] #[]] w fun e w'=>YesNo (SomeIs (odd128) ys) e ∧ Below w.heap.size w w':=by
 have HC:=Lib.hid (idx_check S ys A c w hy)
 clear hy
 go_enter Try.func42,Try.ntmps42
 go_wp2_with fail
 refine HC.out.mono ?_
 rintro e w1 ⟨⟨n,rfl,hn⟩,b1⟩
 have HN:=Lib.hid hn
 clear hn
 go_wp2
 go_ret
 exact ⟨YesNo.of (by rw [decide_eq_true_iff];exact HN.out),b1⟩
theorem eqb_any (A B : Option Addr) (n m q k : Nat) (xs bs : List UInt8) (w : World) (ha : Bs w A n xs) (hb : Bs w B m bs) :
 Calls Try.prog 51 #[.slice A n q,.slice B m k] w fun e w'=>e = .returned (.bool (xs == bs)) ∧ w = w':=by
 have s1:=run_string_bs (P:=Try.prog) q 29 9 5 Try.underlying29 Try.underlying5 Try.underlying9 ha
 have s2:=run_string_bs (P:=Try.prog) k 29 9 5 Try.underlying29 Try.underlying5 Try.underlying9 hb
 go_enter Try.func51,Try.ntmps51
 go_wp2
 go_ret
 exact ⟨rfl,rfl⟩
end Go.Proofs.Ytclbihcggjjgaaa
namespace Go.Proofs.Ytclbihcggjjgaaa
open Go.RowKit
def zeros : List UInt8:=List.replicate 128 0
theorem zeros_len : zeros.length = 128:=by simp [zeros]
end Go.Proofs.Ytclbihcggjjgaaa
namespace Go.Proofs.Ytclbihcggjjgaaa
open Go.RowKit
def Fits (p k : Int) : Prop:=1 ≤ k ∧ k ≤ 4 ∧ 0 ≤ p ∧ p ≤ 128 - k
instance (p k : Int) : Decidable (Fits p k):=by unfold Fits;infer_instance
end Go.Proofs.Ytclbihcggjjgaaa
namespace Go.Proofs.Ytclbihcggjjgaaa
theorem ext_getD (l m : List UInt8) (hl : l.length = m.length) (h : ∀ i,l.getD i 0 = m.getD i 0) : l = m:=by
 apply List.ext_getElem hl
 intro i h1 h2
 have:=h i
 simpa [h1,h2] using this
end Go.Proofs.Ytclbihcggjjgaaa
namespace Go.Proofs.Ytclbihcggjjgaaa
namespace Crc
def tab : Array Nat:=#[0x00000000,0x105ec76f,0x20bd8ede,0x30e349b1,0x417b1dbc,0x5125dad3,0x61c69362,0x7198540d,
 0x82f63b78,0x92a8fc17,0xa24bb5a6,0xb21572c9,0xc38d26c4,0xd3d3e1ab,0xe330a81a,0xf36e6f75]
def W (i : Nat) : Nat:=tab.getD i 0
def T (s : Nat) : Nat:=(s >>> 4) ^^^ W (s &&& 15)
def step (s : Nat) (x : UInt8) : Nat:=T (T (s ^^^ x.toNat))
def run (s : Nat) (l : List UInt8) : Nat:=l.foldl step s
def top : Nat:=4294967295
def neg (s : Nat) : Nat:=top ^^^ s
def over (s : Nat) (l : List UInt8) : Nat:=neg (run (neg s) l)
def own (s : Nat) : List UInt8:=[UInt8.ofNat s,UInt8.ofNat (s / 256),UInt8.ofNat (s / 65536),UInt8.ofNat (s / 16777216)]
end Crc
end Go.Proofs.Ytclbihcggjjgaaa
namespace Go.Proofs.Ytclbihcggjjgaaa
theorem app_getD (a b : List UInt8) (i : Nat) : (a ++ b).getD i 0 = if i < a.length then a.getD i 0 else b.getD (i - a.length) 0:=by
 simp only [List.getD_eq_getElem?_getD,List.getElem?_append]
 split <;> rfl
theorem out_getD (l : List UInt8) (i : Nat) (h : l.length ≤ i) : l.getD i 0 = 0:=by
 rw [List.getD_eq_getElem?_getD,List.getElem?_eq_none h];rfl
def pad (l : List UInt8) : List UInt8:=l ++ List.replicate (128 - l.length) 0
theorem pad_len {l : List UInt8} (h : l.length ≤ 128) : (pad l).length = 128:=by simp [pad];omega
theorem pad_getD (l : List UInt8) (i : Nat) : (pad l).getD i 0 = l.getD i 0:=by
 unfold pad
 rw [app_getD]
 split
 · rfl
 · rename_i h
   rw [out_getD _ i (by omega)]
   simp only [List.getD_eq_getElem?_getD,List.getElem?_replicate]
   split <;> rfl
theorem set_getD (l : List UInt8) (p i : Nat) (v : UInt8) (hp : p < l.length) : (l.set p v).getD i 0 = if i = p then v else l.getD i 0:=by
 simp only [List.getD_eq_getElem?_getD,List.getElem?_set]
 by_cases h : i = p
 · subst h;simp [hp]
 · rw [if_neg (fun e=>h e.symm),if_neg h]
end Go.Proofs.Ytclbihcggjjgaaa
namespace Go.Proofs.Ytclbihcggjjgaaa
open Go.RowKit
theorem info_b : ∃ i,Try.prog.info? 5 = some i ∧ i.zero = some (.int .u8 0) ∧ i.size = 1 ∧ i.bytes = 1:=info_parts (by kernel_rfl)
def Own (w : World) (B g : Nat) (l : List UInt8) : Prop:=w.ownsRow B 5 1 (.slice (some ⟨g,0,none⟩) 128 128) 128 (l.map byteV)
theorem Own.set {w : World} {B g : Nat} {l : List UInt8} (h : Own w B g l) (j : Nat) (b : UInt8) : Own (w.setCell ⟨g,j,none⟩ (byteV b)) B g (l.set j b):=by
 have st:=World.ownsRow.stored h j (byteV b)
 rw [← List.map_set] at st
 exact st.1
theorem Own.len {w : World} {B g : Nat} {l : List UInt8} (h : Own w B g l) : l.length = 128:=by have:=h.1;simpa using this
theorem Own.cell {w : World} {B g : Nat} {l : List UInt8} (h : Own w B g l) (j : Nat) (hj : j < 128) : w.cell? ⟨g,j,none⟩ = some (.int .u8 ((l.getD j 0).toNat : Int)):=by
 rw [World.ownsRow.cellAt h j hj]
 simp [byteV,show j < l.length by rw [h.len];exact hj]
theorem Own.bs {w : World} {B g : Nat} {l : List UInt8} (h : Own w B g l) : Bs w (some ⟨g,0,none⟩) 128 l:=Bs.of_ownS h
theorem made_zeros : (madeCells (Value.int .u8 0).cells (128 * 1)).toList = zeros.map byteV:=by
 show (madeCells #[Value.int .u8 0] (128 * 1)).toList = _
 rw [toList_madeCells_one]
 simp [zeros,byteV]
theorem rwhole_nil (A : Option Addr) (c : Nat) (w : World) :
 Calls Try.prog 72 #[.slice A 0 c] w fun e w'=>∃ g,e = .returned (.slice (some ⟨g,0,none⟩) 128 128) ∧ w.heap.size ≤ g ∧ Own w' w.heap.size g zeros ∧ Below w.heap.size w w':=by
 obtain ⟨i0,hi,hz0,hz1,hz2⟩:=info_b
 go_enter Try.func72,Try.ntmps72
 go_wp2_with (first
  | (refine wpList_make_full w rfl (.const (.int .i64 128)) (.const (.int .i64 128)) 29 rfl w.heap.size 5 i0 (.int .u8 0) 1 Try.underlying29 hi hz0 hz1 .i64 .i64 128 128 128 rfl rfl rfl rfl (by rw [hz2];omega) (by unfold maxLen;omega) (Nat.le_refl _) ?_;intro w2 own2 g2;rw [made_zeros] at own2;have b2:=Ext.grown (Below.refl _ _) g2 (by simp)))
 have HO : Hid (Own w2 w.heap.size w.heap.size zeros):=Lib.hid own2
 clear own2 g2
 refine wp_loop_rounds 1 ?_
 rw [rounds_succ]
 go_wp2
 go_ret
 exact ⟨_,rfl,Nat.le_refl _,HO.out,b2⟩
end Go.Proofs.Ytclbihcggjjgaaa
namespace Go.Proofs.Ytclbihcggjjgaaa
open Go Go.RowKit
set_option linter.unusedSimpArgs false
set_option linter.unusedVariables false
theorem ztake_getD (l : List UInt8) (j i : Nat) : (pad (l.take j)).getD i 0 = if i < j then l.getD i 0 else 0:=by
 rw [pad_getD]
 simp only [List.getD_eq_getElem?_getD,List.getElem?_take]
 split <;> rfl
theorem pad_step (l : List UInt8) (hl : l.length ≤ 128) (j : Nat) (hj : j < l.length) : (pad (l.take j)).set j (l.getD j 0) = pad (l.take (j + 1)):=by
 apply ext_getD
 · rw [List.length_set,pad_len (by simp;omega),pad_len (by simp;omega)]
 · intro i
   rw [set_getD _ _ _ _ (by rw [pad_len (by simp;omega)];omega),ztake_getD,ztake_getD]
   by_cases h : i = j
   · subst h;rw [if_pos rfl,if_pos (by omega)]
   · rw [if_neg h]
     by_cases h2 : i < j
     · rw [if_pos h2,if_pos (by omega)]
     · rw [if_neg h2,if_neg (by omega)]
set_option maxRecDepth 100000 in
theorem rwhole_pad (A : Option Addr) (n c : Nat) (bs : List UInt8) (hn : n ≤ 128) (w : World) (hb : Bs w A n bs) :
 Calls Try.prog 72 #[.slice A n c] w fun e w'=>∃ g,e = .returned (.slice (some ⟨g,0,none⟩) 128 128) ∧ w.heap.size ≤ g ∧ Own w' w.heap.size g (pad bs) ∧ Below w.heap.size w w':=by
 by_cases hz : n = 0
 · subst hz
   have : bs = []:=List.eq_nil_of_length_eq_zero hb.1
   subst this
   exact rwhole_nil A c w
 obtain ⟨i0,hi,hz0,hz1,hz2⟩:=info_b
 obtain ⟨b,off,rfl,hblt,hc⟩:=hb.addr (by omega)
 have hl:=hb.1
 clear hb
 have HC:=Lib.hid hc
 clear hc
 go_enter Try.func72,Try.ntmps72
 go_wp2_with (first
  | (refine wpList_make_full w rfl (.const (.int .i64 128)) (.const (.int .i64 128)) 29 rfl w.heap.size 5 i0 (.int .u8 0) 1 Try.underlying29 hi hz0 hz1 .i64 .i64 128 128 128 rfl rfl rfl rfl (by rw [hz2];omega) (by unfold maxLen;omega) (Nat.le_refl _) ?_;intro w2 own2 g2;rw [made_zeros] at own2;have b2:=Ext.grown (Below.refl _ _) g2 (by simp)))
 have HO : Hid (Own w2 w.heap.size w.heap.size zeros):=Lib.hid own2
 clear own2 g2
 go_loopw [4] (fun i wr=>∃ j : Nat,j ≤ n ∧ i = .int .i64 j ∧ Own wr w.heap.size w.heap.size (pad (bs.take j)) ∧ Below w.heap.size w wr) (fun i _=>n - (intOf i).toNat)
 case atStart=>exact ⟨0,Nat.zero_le _,rfl,HO.out,b2⟩
 case round=>
  obtain ⟨j,hj,rfl,own,bw⟩:=hrel
  by_cases hlt : j < n
  · have h1 : wr.cell? ⟨b,off + j,none⟩ = some (.int .u8 ((bs.getD j 0).toNat : Int)):=by
     rw [bw.cell (p:=⟨b,off + j,none⟩) hblt,HC.out j (by omega)]
     simp [show j < bs.length by omega]
    have h2:=own.cell j (by omega)
    have h3:=World.ownsRow.frozenAt own j
    have hnx:=own.set j (bs.getD j 0)
    rw [pad_step bs (by omega) j (by omega)] at hnx
    have HN:=Lib.hid hnx
    have HC2:=HC
    clear HC hnx
    clear own
    have hj128 : j < 128:=by omega
    generalize ((pad (bs.take j)).getD j 0).toNat = y at h2
    generalize bs.getD j 0 = z at h1 HN ⊢
    go_wp2
    exact ⟨⟨j + 1,by omega,by go_num,HN.out,bw.setCell (Nat.le_refl _) _⟩,by simp [intOf];omega⟩
  · have hj' : j = n:=by omega
    have ht : bs.take j = bs:=by rw [hj',← hl];exact List.take_length
    rw [ht] at own
    clear ht
    go_wp2
    go_ret
    exact ⟨_,rfl,Nat.le_refl _,own,bw⟩
theorem BoxOf.below {w w' : World} {B g : Nat} {cs : Array Value} {t : TypeId} (h : BoxOf w g cs t) (hb : Below B w w') (hg : g < B) : BoxOf w' g cs t:=by
 unfold BoxOf at *
 rw [hb.block g hg];exact h
def OB (w : World) (base : Nat) (v : Value) (n : Nat) (bs : List UInt8) : Prop:=w.ownsRow base 5 1 v n (bs.map byteV)
theorem OB.next {w w' : World} {base : Nat} {v : Value} {n : Nat} {bs : List UInt8} (h : OB w base v n bs) (hb : Below w.heap.size w w') : OB w' base v n bs:=own_next h hb
theorem OB.bs {w : World} {base : Nat} {v : Value} {n : Nat} {bs : List UInt8} (h : OB w base v n bs) : ∃ A c,v = .slice A n c ∧ Bs w A n bs:=by
 obtain ⟨A,c,rfl,_,hb⟩:=Bs.of_own h
 exact ⟨A,c,rfl,hb⟩
theorem OB.nil (w : World) (base : Nat) : OB w base (.slice none 0 0) 0 []:=⟨rfl,.inl ⟨rfl,rfl⟩⟩
theorem BoxOf.out {w : World} {g : Nat} {cs : Array Value} {t : TypeId} (h : BoxOf w g cs t) (o : Nat) (v : Value) (hv : cs.toList[o]? = some v) : w.cell? ⟨g,o,none⟩ = some v:=(h.cell o).trans hv
end Go.Proofs.Ytclbihcggjjgaaa
namespace Go.Proofs.Ytclbihcggjjgaaa
open Go Go.RowKit
set_option linter.unusedSimpArgs false
set_option linter.unusedVariables false
theorem flat_ones (bs : List UInt8) : (bs.map fun b=>[byteV b]).flatten = bs.map byteV:=by
 induction bs with
 | nil=>rfl
 | cons a l ih=>rw [List.map_cons,List.flatten_cons,ih];rfl
theorem OwnL.of_bytes {w : World} {base : Nat} {tid : TypeId} {v : Value} {bs : List UInt8} (h : w.ownsRow base tid 1 v bs.length (bs.map byteV)) : OwnL w base tid .byte v bs:=by
 refine ⟨bs.map fun b=>[byteV b],List.length_map _,fun i h h'=>?_,?_⟩
 · rw [List.getElem_map]
   exact rdin_byte.2 rfl
 · rw [flat_ones]
   exact h
theorem OwnL.bytes_rdin {w : World} {base : Nat} {tid : TypeId} {v : Value} {bs : List UInt8} (h : OwnL w base tid .byte v bs) (hz : bs.length ≤ 140737488355328) : RdIn w (NewB base w) (.sl .byte) bs [v]:=
 OwnL.rdin h (by show bs.length * 1 ≤ _;omega)
theorem rdin_nilb {w : World} {S : Nat → Prop} {c : Nat} (hc : c ≤ maxLen) (A : Option Addr) : RdIn w S (.sl .byte) [] [.slice A 0 c]:=rdin_sl.2 ⟨A,c,rfl,by simp,hc,by simp,.inl rfl⟩
theorem rdin_bmax {w : World} {S : Nat → Prop} {bs : List UInt8} {v : Value} (h : RdIn w S (.sl .byte) bs [v]) : bs.length ≤ 140737488355328:=by
 obtain ⟨_,_,_,_,_,h1,_⟩:=rdin_sl.1 h
 have h2 : bs.length * 1 ≤ 140737488355328:=h1
 omega
theorem eqn_none (w : World) (n c : Nat) : (binOp .eql 29 (.slice none n c) (.slice none 0 0)).run Try.prog w = .ok (.bool true) w:=by kernel_rfl
theorem eqn_some (w : World) (a : Addr) (n c : Nat) : (binOp .eql 29 (.slice (some a) n c) (.slice none 0 0)).run Try.prog w = .ok (.bool false) w:=by kernel_rfl
set_option maxRecDepth 100000 in
set_option maxHeartbeats 1000000 in
theorem clone_any (S : Nat → Prop) (bs : List UInt8) (A : Option Addr) (c : Nat) (w : World) (h : RdIn w S (.sl .byte) bs [.slice A bs.length c]) :
 Calls Try.prog 44 #[.slice A bs.length c] w fun e w'=>(∃ v,e = .returned v ∧ RdIn w' (NewB w.heap.size w') (.sl .byte) bs [v]) ∧ Below w.heap.size w w':=by
 obtain ⟨i0,hi,hz0,hz1,hz2⟩:=minfo_u8
 have hbs:=h.bytes_bs
 have hbm:=rdin_bmax h
 have HM:=Lib.hid (And.intro (byte_max h) hbm)
 cases A with
 | none=>
   have hb0 : bs = []:=by
    rcases hbs.2 with h0 | ⟨b,off,e,_⟩
    · simpa using h0
    · cases e
   subst hb0
   have HE:=fun (w : World) (c : Nat)=>eqn_none w 0 c
   clear h hbs hbm
   go_enter Try.func44,Try.ntmps44
   go_wp2
   go_ret
   exact ⟨⟨_,rfl,rdin_nilb (by unfold maxLen;omega) _⟩,Below.refl _ _⟩
 | some a=>
   have t0:=Ext.alloc (Below.refl w.heap.size w) (.cells #[] 5)
   have hrd : Rd (w.alloc (.cells #[] 5)) (some a) (bs.map byteV):=(hbs.alloc _).2
   have own0 : (w.alloc (.cells #[] 5)).ownsRow w.heap.size 5 1 (.slice (some ⟨w.heap.size,0,none⟩) 0 0) 0 []:=⟨rfl,.inr ⟨w.heap.size,0,#[],rfl,Nat.le_refl _,heap_alloc_new _ _,Nat.le_refl _,by unfold maxLen;omega,rfl,rfl⟩⟩
   have HE:=fun (w : World) (n c : Nat)=>eqn_some w a n c
   clear h hbs hbm
   go_enter Try.func44,Try.ntmps44
   go_upto_region 3 with fail
   go_wp2_with (at_builtin;(refine wpList_append_rd _ rfl (.tmp 5) (.tmp 6) 29 rfl w.heap.size 5 i0 _ 1 1 Try.underlying29 hi hz0 hz1 hz2 rfl (by decide) _ 0 [] rfl own0 (some a) bs.length c (bs.map byteV) rfl (by simp) hrd (by intro u hu;rw [List.mem_map] at hu;obtain ⟨y,_,rfl⟩:=hu;rfl) (by have:=HM.out.1;omega) (by have:=HM.out.2;omega) (by simp) ?_);intro v1 w1 h2 h3 h4)
   have O1 : OwnL w1 w.heap.size 5 .byte v1 bs:=OwnL.of_bytes (by rw [Nat.zero_add,List.nil_append] at h2;exact h2)
   have b1:=Below.grown t0 h3 (by simp) (fun k e=>by cases e;exact Nat.le_refl _)
   go_ret
   exact ⟨⟨_,rfl,O1.bytes_rdin HM.out.2⟩,b1⟩
def part128 (bs : List UInt8) (i : Nat) : List UInt8:=(bs.drop (i * 128)).take 128
theorem part128_len {bs : List UInt8} {i : Nat} (h : i * 128 + 128 ≤ bs.length) : (part128 bs i).length = 128:=by
 unfold part128
 rw [List.length_take,List.length_drop];omega
theorem part128_get {bs : List UInt8} {i : Nat} (h : i * 128 + 128 ≤ bs.length) {q : Nat} (hq : q < (part128 bs i).length) : (part128 bs i)[q] = bs[i * 128 + q]'(by rw [part128_len h] at hq;omega):=by
 simp only [part128,List.getElem_take,List.getElem_drop]
def blk (k : Int) (bs : List UInt8) (i : Nat) : List UInt8:=if kBytes k then part128 bs i else zeros
theorem RdIn.part {w : World} {S : Nat → Prop} {bs : List UInt8} {b off c : Nat} (h : RdIn w S (.sl .byte) bs [.slice (some ⟨b,off,none⟩) bs.length c]) {i : Nat} (hi : i * 128 + 128 ≤ bs.length) :
 RdIn w S (.sl .byte) (part128 bs i) [.slice (some ⟨b,off + i * 128,none⟩) (part128 bs i).length (c - i * 128)]:=by
 obtain ⟨A',c',e,hn,hm,hz,hh⟩:=rdin_sl.1 h
 have e':=(List.cons.inj e).1
 injection e' with e1 e2 e3
 subst e3
 have hl:=part128_len hi
 have hn' : bs.length ≤ c:=hn
 have hz' : bs.length * 1 ≤ 140737488355328:=hz
 refine rdin_sl.2 ⟨_,_,rfl,?_,?_,?_,?_⟩
 · show (part128 bs i).length ≤ _;omega
 · omega
 · show (part128 bs i).length * 1 ≤ _;omega
 · rcases hh with hh | ⟨b',off',e5,hS,hc⟩
   · exfalso
     have : bs = []:=hh
     rw [this] at hi
     simp at hi
   · rw [← e1] at e5
     injection e5 with e5
     injection e5 with e51 e52
     subst e51 e52
     refine .inr ⟨b,off + i * 128,rfl,hS,fun q hq=>?_⟩
     have hq' : q < (part128 bs i).length:=hq
     obtain ⟨es,h1,h2⟩:=hc (i * 128 + q) (show i * 128 + q < bs.length by omega)
     refine ⟨es,fun j hj=>?_,?_⟩
     · have h3:=h1 j hj
       have hj0 : j = 0:=by have : j < 1:=hj;omega
       subst hj0
       have e7 : off + (i * 128 + q) * Ty.size .byte + 0 = off + i * 128 + q * Ty.size .byte + 0:=by show off + (i * 128 + q) * 1 + 0 = off + i * 128 + q * 1 + 0;omega
       rw [e7] at h3
       exact h3
     · have e9:=rdin_byte.1 h2
       refine rdin_byte.2 ?_
       rw [e9]
       exact congrArg (fun z=>[byteV z]) (part128_get hi hq').symm
def WrIs (base : Nat) (k : Int) (bs : List UInt8) (i : Nat) (e : Ending) (w : World) : Prop:=∃ D n q,e = .returned (.tuple #[.slice D n q,.bool (kWrites k)]) ∧ (kWrites k = true → RdIn w (NewB base w) (.sl .byte) (blk k bs i) [.slice D n q])
theorem bytesV {w : World} {S : Nat → Prop} {bs : List UInt8} {v : Value} (h : RdIn w S (.sl .byte) bs [v]) : ∃ A c,v = .slice A bs.length c:=by
 obtain ⟨A,c,e,_⟩:=h.bytes
 exact ⟨A,c,e⟩
set_option maxRecDepth 100000 in
set_option maxHeartbeats 1000000 in
theorem swrites_any (S : Nat → Prop) (k a y : Int) (bs : List UInt8) (A : Option Addr) (c : Nat) (i : Nat) (w : World) (h : RdIn w S (.sl .byte) bs [.slice A bs.length c]) (hb : kBytes k = true → i * 128 + 128 ≤ bs.length) (hi : i < 1000) :
 Calls Try.prog 69 #[.agg #[.int .u8 k,.int .i64 a,.int .i64 y,.slice A bs.length c],.int .i64 (i : Int)] w fun e w'=>WrIs w.heap.size k bs i e w' ∧ Below w.heap.size w w':=by
 by_cases h23 : k = 2 ∨ k = 3
 · have hkb : kBytes k = true:=decide_eq_true h23
   have hkw : kWrites k = true:=decide_eq_true (by omega)
   have hbl:=hb hkb
   obtain ⟨b,off,hA⟩ : ∃ b off,A = some ⟨b,off,none⟩:=by
    rcases h.bytes_bs.2 with h0 | ⟨b,off,e,_⟩
    · have : bs = []:=by simpa using h0
      rw [this] at hbl
      simp at hbl
    · exact ⟨b,off,e⟩
   subst hA
   have hcl : bs.length ≤ c:=by obtain ⟨_,c',e,hn,_⟩:=rdin_sl.1 h;injection e with e _;injection e with _ _ e3;rw [e3];exact hn
   have hp:=h.part hbl
   have hblk : Hid (blk k bs i = part128 bs i):=by show _ = _;unfold blk;rw [if_pos hkb]
   have hl:=part128_len hbl
   generalize part128 bs i = ds at *
   have hw1 : wrap64 ((i : Int) * 128) = ((i * 128 : Nat) : Int):=by rw [IntWalk.wrap64_in _ (by omega)];omega
   have hw2 : wrap64 ((i : Int) + 1) = ((i + 1 : Nat) : Int):=by rw [IntWalk.wrap64_in _ (by omega)];omega
   have hw3 : wrap64 (((i + 1 : Nat) : Int) * 128) = ((i * 128 + 128 : Nat) : Int):=by rw [IntWalk.wrap64_in _ (by omega)];omega
   have HC : Hid (∀ w',Below w.heap.size w w' → Calls Try.prog 44 #[.slice (some ⟨b,off + i * 128,none⟩) ((i + 1) * 128 - i * 128) (c - i * 128)] w' fun e w''=>(∃ v,e = .returned v ∧ RdIn w'' (NewB w'.heap.size w'') (.sl .byte) ds [v]) ∧ Below w'.heap.size w' w''):=fun w' bb=>by
    have h9:=clone_any S ds _ _ w' (hp.below bb)
    rw [show (i + 1) * 128 - i * 128 = ds.length by omega]
    exact h9
   have HW:=Lib.hid hkw
   clear h hb hkb hkw hp
   have t0:=Ext.alloc (Below.refl w.heap.size w) (.cells #[.int .u8 k,.int .i64 a,.int .i64 y,.slice (some ⟨b,off,none⟩) bs.length c] 58)
   have P0:=BoxOf.new w #[.int .u8 k,.int .i64 a,.int .i64 y,.slice (some ⟨b,off,none⟩) bs.length c] 58
   rcases Bool.eq_false_or_eq_true (k == 2) with e2 | e2
   · clear h23
     go_enter Try.func69,Try.ntmps69
     go_upto_region 1 with fail
     generalize w.alloc (.cells #[.int .u8 k,.int .i64 a,.int .i64 y,.slice (some ⟨b,off,none⟩) bs.length c] 58) = W at *
     have x0:=P0.cell
     go_wp2_with fail
     refine (HC.out _ t0).mono ?_
     rintro e w1 ⟨⟨v,rfl,r1⟩,b1⟩
     have b2:=Ext.trans t0 b1
     have hbw:=t0.size
     obtain ⟨D,q,rfl⟩:=bytesV r1
     rw [hl] at r1
     have R1:=Lib.hid r1
     clear r1
     go_wp2
     go_ret2
     exact ⟨⟨D,_,q,by rw [HW.out];try rfl,fun _=>by rw [hblk.out];exact R1.out.mono fun b hb=>⟨Nat.le_trans hbw hb.1,hb.2⟩⟩,b2⟩
   · have e3 : (k == 3) = true:=by have : k ≠ 2:=by simpa using e2
                                   simp;omega
     clear h23
     go_enter Try.func69,Try.ntmps69
     go_upto_region 1 with fail
     generalize w.alloc (.cells #[.int .u8 k,.int .i64 a,.int .i64 y,.slice (some ⟨b,off,none⟩) bs.length c] 58) = W at *
     have x0:=P0.cell
     go_wp2_with fail
     refine (HC.out _ t0).mono ?_
     rintro e w1 ⟨⟨v,rfl,r1⟩,b1⟩
     have b2:=Ext.trans t0 b1
     have hbw:=t0.size
     obtain ⟨D,q,rfl⟩:=bytesV r1
     rw [hl] at r1
     have R1:=Lib.hid r1
     clear r1
     go_wp2
     go_ret2
     exact ⟨⟨D,_,q,by rw [HW.out];try rfl,fun _=>by rw [hblk.out];exact R1.out.mono fun b hb=>⟨Nat.le_trans hbw hb.1,hb.2⟩⟩,b2⟩
 · have hkb : kBytes k = false:=decide_eq_false h23
   have hblk : Hid (blk k bs i = zeros):=by show _ = _;unfold blk;rw [hkb];rfl
   have e2 : (k == 2) = false:=by simp;omega
   have e3 : (k == 3) = false:=by simp;omega
   clear h hb hkb
   rcases Bool.eq_false_or_eq_true (k == 5) with e5 | e5
   · obtain ⟨i0,hi0,hz0,hz1,hz2⟩:=minfo_u8
     have HW : Hid (kWrites k = true):=decide_eq_true (by have : k = 5:=by simpa using e5
                                                          omega)
     clear h23
     have t0:=Ext.alloc (Below.refl w.heap.size w) (.cells #[.int .u8 k,.int .i64 a,.int .i64 y,.slice A bs.length c] 58)
     have P0:=BoxOf.new w #[.int .u8 k,.int .i64 a,.int .i64 y,.slice A bs.length c] 58
     go_enter Try.func69,Try.ntmps69
     go_upto_region 1 with fail
     generalize w.alloc (.cells #[.int .u8 k,.int .i64 a,.int .i64 y,.slice A bs.length c] 58) = W at *
     have x0:=P0.cell
     go_wp2_with (refine wpList_make_full W rfl (.const (.int .i64 128)) (.const (.int .i64 128)) 29 rfl W.heap.size 5 i0 (.int .u8 0) 1 Try.underlying29 hi0 hz0 hz1 .i64 .i64 128 128 128 rfl rfl rfl rfl (by rw [hz2];omega) (by unfold maxLen;omega) (Nat.le_refl _) ?_;intro w2 own2 g2;rw [made_zeros] at own2;have b2:=Ext.grown (Below.refl _ _) g2 (by simp))
     go_ret2
     have hbw:=t0.size
     have RO:=(OwnL.of_bytes (bs:=zeros) (by rw [zeros_len];exact own2)).bytes_rdin (by rw [zeros_len];decide)
     exact ⟨⟨_,128,_,by rw [HW.out];try rfl,fun _=>by rw [hblk.out];exact RO.mono fun b hb=>⟨Nat.le_trans hbw hb.1,hb.2⟩⟩,Ext.trans t0 b2⟩
   · have HW : Hid (kWrites k = false):=decide_eq_false (by have : k ≠ 5:=by simpa using e5
                                                            omega)
     clear h23
     have t0:=Ext.alloc (Below.refl w.heap.size w) (.cells #[.int .u8 k,.int .i64 a,.int .i64 y,.slice A bs.length c] 58)
     have P0:=BoxOf.new w #[.int .u8 k,.int .i64 a,.int .i64 y,.slice A bs.length c] 58
     go_enter Try.func69,Try.ntmps69
     go_upto_region 1 with fail
     generalize w.alloc (.cells #[.int .u8 k,.int .i64 a,.int .i64 y,.slice A bs.length c] 58) = W at *
     have x0:=P0.cell
     go_wp2
     go_ret2
     exact ⟨⟨none,0,0,by rw [HW.out];try rfl,fun h=>by rw [HW.out] at h;cases h⟩,t0⟩
end Go.Proofs.Ytclbihcggjjgaaa
namespace Go.Proofs.Ytclbihcggjjgaaa
open Go Go.RowKit
set_option linter.unusedSimpArgs false
set_option linter.unusedVariables false
def hitB (n : Int) (ds : List UInt8) (g : GoTy.T) : Bool:=(decide (atOf g ≤ n) && decide (n < atOf g + manyOf g)) && (kWrites ((kiOf g).toNat : Int) && (blk ((kiOf g).toNat : Int) (datOf g) (n - atOf g).toNat == ds))
def AskFit (g : GoTy.T) : Prop:=((0 ≤ atOf g ∧ atOf g ≤ 1000) ∧ (0 ≤ manyOf g ∧ manyOf g ≤ 8)) ∧ ((datOf g).length : Int) = kWant ((kiOf g).toNat : Int) (manyOf g)
theorem AskFit.of {x : Cfg} {ys : List (List (List UInt8))} {g : GoTy.T} (h : OneOk x ys g) : AskFit g:=by
 obtain ⟨_,h,_⟩:=h
 obtain ⟨_,_,h1,h2,h3,_⟩:=askCode_0 h
 exact ⟨⟨h3,h2⟩,h1⟩
def LeftP (ys : List (List (List UInt8))) (gs : List GoTy.T) (n : Nat) (ds : List UInt8) : Prop:=(∃ h : n < ys.length,SomeIs (eqBs ds) ys[n]) ∨ SomeIs (hitB n ds) gs
end Go.Proofs.Ytclbihcggjjgaaa
namespace Go.Proofs.Ytclbihcggjjgaaa
open Go Go.RowKit Go.Shelf
set_option linter.unusedSimpArgs false
set_option linter.unusedVariables false
attribute [local go_sem] Oper.semAt_some
def KeepL (base : Nat) (W W' : World) : Prop:=∀ (p : Addr) (v : Value),p.block < base → W.cell? p = some v → W'.cell? p = some v
theorem KeepL.refl (base : Nat) (W : World) : KeepL base W W:=fun _ _ _ h=>h
theorem KeepL.trans {base : Nat} {A B C : World} (h : KeepL base A B) (k : KeepL base B C) : KeepL base A C:=fun p v hp hv=>k p v hp (h p v hp hv)
theorem KeepL.below {base : Nat} {A B : World} (h : Below base A B) : KeepL base A B:=fun p v hp hv=>(h.cell hp).trans hv
theorem keepL_b {w : World} (base : Nat) (W : World) (l : Nat) (o o' : Obj) (hl : w.heap.size ≤ l) (h : W.heap[l]? = some o) (hc : o.isCells = false) (_ : o.isWalk = false) : KeepL base W (W.putObj l o'):=by
 intro p v hp hv
 by_cases e : p.block = l
 · exfalso
   have h1 : W.cell? p = none:=by
    subst e
    cases o <;> simp_all [World.cell?,Obj.isCells]
   rw [h1] at hv
   cases hv
 · rw [World.cell?_of_block (w:=W) (a:=p) (World.putObj_heap_other (fun h=>e h))]
   exact hv
theorem abides_drew {α : Type} {B : Nat} {J : α → World → Prop} (h : AbidesFrom B J) {s : α} {W : World} (hs : J s W) : J s W.drew:=
 h s W W.drew none hs ⟨rfl,rfl,rfl,Nat.le_refl _,fun _ _ _=>rfl⟩ (fun _ e=>by cases e)
def encB (ms : List Int) (vs : List Value) {m : Nat} (x : Fin m) : Array Value:=#[.int .i64 (ms.getD x.val 0),vs.getD x.val undef]
set_option maxRecDepth 100000 in
set_option maxHeartbeats 2000000 in
theorem both1_in (F : Fence) (n : Nat) (h33 : F.fn 87) (hro : F.round = none) (hn : 1 ≤ n) (l gx gy base : Nat) (ms : List Int) (vs : List Value) (A B : Option Addr) (ca cb : Nat) (m : Nat) (hm : ((m : Nat) : Int) = min (ms.length : Int) (vs.length : Int)) (hmx : m ≤ maxLen) (J Jx : List (Fin m) → World → Prop)
 (W : World) (hJ : AbidesFrom W.heap.size J)
 (hY : ∀ pre x W',J pre W' → pre.length < m → YieldAt F (n - 1) Try.prog l (encB ms vs x) W' fun e W''=>
   (e = .returned (.bool true) ∧ J (pre ++ [x]) W'' ∧ KeepL base W' W'') ∨ (e = .returned (.bool false) ∧ Jx (pre ++ [x]) W''))
 (hgx : gx < base) (hgy : gy < base)
 (hx : W.cell? ⟨gx,0,none⟩ = some (.slice A ms.length ca)) (hy : W.cell? ⟨gy,0,none⟩ = some (.slice B vs.length cb))
 (hA : ∀ i,i < ms.length → ∃ b o,A = some ⟨b,o,none⟩ ∧ b < base ∧ W.cell? ⟨b,o + i,none⟩ = some (.int .i64 (ms.getD i 0))) (hB : ∀ i,i < vs.length → ∃ b o,B = some ⟨b,o,none⟩ ∧ b < base ∧ W.cell? ⟨b,o + i,none⟩ = some (vs.getD i undef)) (hV : ∀ i,i < vs.length → ∃ A n c,vs.getD i undef = .slice A n c) (h0 : J [] W) :
 CallsIn F n Try.prog 87 #[.func (.yield l) #[] #[],.pointer (some ⟨gx,0,none⟩),.pointer (some ⟨gy,0,none⟩)] W fun e W'=>(∃ v,e = .returned v) ∧
  ((∃ ys,ys = List.finRange m ∧ J ys W') ∨ (∃ pre,pre <+: List.finRange m ∧ Jx pre W')):=by
 refine callsIn_of_wp Try.func87 rfl h33 ?_ hro
 simp only [Try.ntmps87,List.size_toArray,List.length_cons,List.length_nil,Nat.reduceAdd,Nat.reduceSub,Array.replicate_succ,Array.replicate_zero,List.push_toArray,List.append_toArray,List.nil_append,List.cons_append]
 have hmix : Try.prog.follows .mixedOrders = true:=by kernel_rfl
 have HV:=Lib.hid hV
 have HM:=Lib.hid hm
 have HMX:=Lib.hid hmx
 have hmm : m ≤ ms.length ∧ m ≤ vs.length:=by omega
 have HMM:=Lib.hid hmm
 clear hmm hmx hV
 gi_wp2
 rw [← HM.out]
 clear hm
 gi_loopw [4,10] (fun u i wr=>∃ k : Nat,k ≤ m ∧ i = .int .i64 k ∧ J ((List.finRange m).take k) wr ∧ KeepL base W wr) (fun _ i _=>m - (intOf i).toNat)
 case atStart=>exact ⟨0,Nat.zero_le _,rfl,h0,KeepL.refl _ _⟩
 case round=>
  obtain ⟨k,hk,rfl,hJs,hkp⟩:=hrel
  by_cases hlt : k < m
  · have hstep : (List.finRange m).take (k + 1) = (List.finRange m).take k ++ [⟨k,hlt⟩]:=by
     rw [List.take_succ_eq_append_getElem (by simpa using hlt)]
     simp
    have hJd:=abides_drew hJ hJs
    obtain ⟨b1,o1,rfl,hb1,q1⟩:=hA k (by have:=HMM.out;omega)
    obtain ⟨b2,o2,rfl,hb2,q2⟩:=hB k (by have:=HMM.out;omega)
    obtain ⟨A3,n3,c3,hv3⟩:=HV.out k (by have:=HMM.out;omega)
    obtain ⟨fn,tmps,assign,body,hy',hR⟩:=hY _ ⟨k,hlt⟩ wr.drew hJd (by simp;omega)
    unfold encB at hy'
    dsimp only at hy'
    have x1:=hkp _ _ hgx hx
    have x2:=hkp _ _ hgy hy
    have x3:=hkp _ _ hb1 q1
    have x4:=hkp _ _ hb2 q2
    rw [hv3] at x4 hy'
    generalize ms.getD k 0 = z at *
    have HST:=Lib.hid hstep
    clear hstep hY hA hB q1 q2 hv3
    have HWK:=next_wrap HMX.out hlt
    have hl1 : k < ms.length:=by have:=HMM.out;omega
    have hl2 : k < vs.length:=by have:=HMM.out;omega
    have HKP:=Lib.hid hkp
    have HJ9:=Lib.hid (And.intro hJs hJd)
    clear hJs hJd hJ hkp
    gi_wp2
    refine wpIn_region_any (by assumption) ?_
    try (change wpAnyIn _ _ _ _ _ _ _ _ _ (World.drew _))
    refine wpAnyIn_take (i:=0) (v:=?_) hro rfl (by kernel_rfl) (by kernel_rfl) (by kernel_rfl) (fun _ _ _ h=>h) ⟨Or.inl ⟨by rfl,?_⟩,fun _=>rfl⟩ ?_
    rotate_left
    · intro w
      go_simp
      try with_reducible rfl
    rotate_left
    try simp only [Act.put,zq0,zq1,zq2,zq3,zq4,zq5]
    refine wpAnyIn_take (i:=2) (v:=?_) hro rfl (by kernel_rfl) (by kernel_rfl) (by kernel_rfl) (fun _ _ _ h=>h) ⟨Or.inl ⟨by rfl,?_⟩,fun _=>rfl⟩ ?_
    rotate_left
    · intro w
      go_simp
      try with_reducible rfl
    rotate_left
    try simp only [Act.put,zq0,zq1,zq2,zq3,zq4,zq5]
    refine wpAnyIn_take (i:=6) (v:=?_) hro rfl (by kernel_rfl) (by kernel_rfl) (by kernel_rfl) (fun _ _ _ h=>h) ⟨Or.inl ⟨by rfl,?_⟩,fun _=>rfl⟩ ?_
    rotate_left
    · intro w
      go_simp
      try with_reducible rfl
    rotate_left
    try simp only [Act.put,zq0,zq1,zq2,zq3,zq4,zq5]
    refine wpAnyIn_ready (rs:=[1,5]) (by kernel_rfl) (by simp) ?_
    refine AllReadyIn.cons rfl (fun K hK=>?_) (AllReadyIn.cons rfl (fun K hK=>?_) AllReadyIn.nil)
    · go_simp
      refine hK _ _ ?_
      clear hK K
      try simp only [Act.put,zq0,zq1,zq2,zq3,zq4,zq5]
      refine wpAnyIn_take (i:=3) (v:=?_) hro rfl (by kernel_rfl) (by kernel_rfl) (by kernel_rfl) (fun _ _ _ h=>h) ⟨Or.inl ⟨by rfl,?_⟩,fun _=>rfl⟩ ?_
      rotate_left
      · intro w
        go_simp
        try with_reducible rfl
      rotate_left
      try simp only [Act.put,zq0,zq1,zq2,zq3,zq4,zq5]
      refine wpAnyIn_ready (rs:=[4,5]) (by kernel_rfl) (by simp) ?_
      refine AllReadyIn.cons rfl (fun K hK=>?_) (AllReadyIn.cons rfl (fun K hK=>?_) AllReadyIn.nil)
      · go_simp
        refine hK _ _ ?_
        clear hK K
        try simp only [Act.put,zq0,zq1,zq2,zq3,zq4,zq5]
        refine wpAnyIn_ready (rs:=[5]) (by kernel_rfl) (by simp) ?_
        refine AllReadyIn.cons rfl (fun K hK=>?_) AllReadyIn.nil
        go_simp
        refine hK _ _ ?_
        clear hK K
        try simp only [Act.put,zq0,zq1,zq2,zq3,zq4,zq5]
        refine wpAnyIn_take (i:=7) (v:=?_) hro rfl (by kernel_rfl) (by kernel_rfl) (by kernel_rfl) (fun _ _ _ h=>h) ⟨Or.inl ⟨by rfl,?_⟩,fun _=>rfl⟩ ?_
        rotate_left
        · intro w
          go_simp
          try with_reducible rfl
        rotate_left
        try simp only [Act.put,zq0,zq1,zq2,zq3,zq4,zq5]
        refine wpAnyIn_ready (rs:=[8]) (by kernel_rfl) (by simp) ?_
        refine AllReadyIn.cons rfl (fun K hK=>?_) AllReadyIn.nil
        go_simp
        refine hK _ _ ?_
        clear hK K
        try simp only [Act.put,zq0,zq1,zq2,zq3,zq4,zq5]
        refine wpAnyIn_ready (rs:=[9]) (by kernel_rfl) (by simp) ?_
        refine AllReadyIn.cons rfl (fun K hK=>?_) AllReadyIn.nil
        go_simp
        refine hR.mono ?_
        rintro e W3 (⟨rfl,hJ3,hk3⟩ | ⟨rfl,hJx3⟩)
        · dsimp only
          refine hK _ _ ?_
          clear hK K
          refine wpAnyIn_take (i:=10) (v:=?_) hro rfl (by kernel_rfl) (by kernel_rfl) (by kernel_rfl) (fun _ _ _ h=>h) ⟨Or.inl ⟨by rfl,?_⟩,fun _=>rfl⟩ ?_
          rotate_left
          · intro w
            go_simp
            try with_reducible rfl
          rotate_left
          try simp only [Act.put,zq0,zq1,zq2,zq3,zq4,zq5]
          refine wpAnyIn_done (by kernel_rfl) ?_ _
          gi_wp2
          go_roundw
          case rel=>exact ⟨k + 1,by omega,by first | exact round_same HWK | go_num,by rw [HST.out];exact hJ3,HKP.out.trans (KeepL.trans (fun p v hp hv=>hv) hk3)⟩
          case measure=>first | exact round_less HWK hlt | (simp [intOf];omega)
        · dsimp only
          refine hK _ _ ?_
          clear hK K
          refine wpAnyIn_take (i:=10) (v:=?_) hro rfl (by kernel_rfl) (by kernel_rfl) (by kernel_rfl) (fun _ _ _ h=>h) ⟨Or.inl ⟨by rfl,?_⟩,fun _=>rfl⟩ ?_
          rotate_left
          · intro w
            go_simp
            try with_reducible rfl
          rotate_left
          try simp only [Act.put,zq0,zq1,zq2,zq3,zq4,zq5]
          refine wpAnyIn_done (by kernel_rfl) ?_ _
          gi_wp2
          first | go_end0 | (refine bodyPost_ret (results_none rfl _ _ _) rfl ?_)
          exact ⟨⟨_,rfl⟩,.inr ⟨_,by rw [← HST.out];exact List.take_prefix _ _,hJx3⟩⟩
      · go_simp
        refine hK _ _ ?_
        clear hK K
        try simp only [Act.put,zq0,zq1,zq2,zq3,zq4,zq5]
        refine wpAnyIn_take (i:=7) (v:=?_) hro rfl (by kernel_rfl) (by kernel_rfl) (by kernel_rfl) (fun _ _ _ h=>h) ⟨Or.inl ⟨by rfl,?_⟩,fun _=>rfl⟩ ?_
        rotate_left
        · intro w
          go_simp
          try with_reducible rfl
        rotate_left
        try simp only [Act.put,zq0,zq1,zq2,zq3,zq4,zq5]
        refine wpAnyIn_ready (rs:=[4,8]) (by kernel_rfl) (by simp) ?_
        refine AllReadyIn.cons rfl (fun K hK=>?_) (AllReadyIn.cons rfl (fun K hK=>?_) AllReadyIn.nil)
        · go_simp
          refine hK _ _ ?_
          clear hK K
          try simp only [Act.put,zq0,zq1,zq2,zq3,zq4,zq5]
          refine wpAnyIn_ready (rs:=[8]) (by kernel_rfl) (by simp) ?_
          refine AllReadyIn.cons rfl (fun K hK=>?_) AllReadyIn.nil
          go_simp
          refine hK _ _ ?_
          clear hK K
          try simp only [Act.put,zq0,zq1,zq2,zq3,zq4,zq5]
          refine wpAnyIn_ready (rs:=[9]) (by kernel_rfl) (by simp) ?_
          refine AllReadyIn.cons rfl (fun K hK=>?_) AllReadyIn.nil
          go_simp
          refine hR.mono ?_
          rintro e W3 (⟨rfl,hJ3,hk3⟩ | ⟨rfl,hJx3⟩)
          · dsimp only
            refine hK _ _ ?_
            clear hK K
            refine wpAnyIn_take (i:=10) (v:=?_) hro rfl (by kernel_rfl) (by kernel_rfl) (by kernel_rfl) (fun _ _ _ h=>h) ⟨Or.inl ⟨by rfl,?_⟩,fun _=>rfl⟩ ?_
            rotate_left
            · intro w
              go_simp
              try with_reducible rfl
            rotate_left
            try simp only [Act.put,zq0,zq1,zq2,zq3,zq4,zq5]
            refine wpAnyIn_done (by kernel_rfl) ?_ _
            gi_wp2
            go_roundw
            case rel=>exact ⟨k + 1,by omega,by first | exact round_same HWK | go_num,by rw [HST.out];exact hJ3,HKP.out.trans (KeepL.trans (fun p v hp hv=>hv) hk3)⟩
            case measure=>first | exact round_less HWK hlt | (simp [intOf];omega)
          · dsimp only
            refine hK _ _ ?_
            clear hK K
            refine wpAnyIn_take (i:=10) (v:=?_) hro rfl (by kernel_rfl) (by kernel_rfl) (by kernel_rfl) (fun _ _ _ h=>h) ⟨Or.inl ⟨by rfl,?_⟩,fun _=>rfl⟩ ?_
            rotate_left
            · intro w
              go_simp
              try with_reducible rfl
            rotate_left
            try simp only [Act.put,zq0,zq1,zq2,zq3,zq4,zq5]
            refine wpAnyIn_done (by kernel_rfl) ?_ _
            gi_wp2
            first | go_end0 | (refine bodyPost_ret (results_none rfl _ _ _) rfl ?_)
            exact ⟨⟨_,rfl⟩,.inr ⟨_,by rw [← HST.out];exact List.take_prefix _ _,hJx3⟩⟩
        · go_simp
          refine hK _ _ ?_
          clear hK K
          try simp only [Act.put,zq0,zq1,zq2,zq3,zq4,zq5]
          refine wpAnyIn_ready (rs:=[4]) (by kernel_rfl) (by simp) ?_
          refine AllReadyIn.cons rfl (fun K hK=>?_) AllReadyIn.nil
          go_simp
          refine hK _ _ ?_
          clear hK K
          try simp only [Act.put,zq0,zq1,zq2,zq3,zq4,zq5]
          refine wpAnyIn_ready (rs:=[9]) (by kernel_rfl) (by simp) ?_
          refine AllReadyIn.cons rfl (fun K hK=>?_) AllReadyIn.nil
          go_simp
          refine hR.mono ?_
          rintro e W3 (⟨rfl,hJ3,hk3⟩ | ⟨rfl,hJx3⟩)
          · dsimp only
            refine hK _ _ ?_
            clear hK K
            refine wpAnyIn_take (i:=10) (v:=?_) hro rfl (by kernel_rfl) (by kernel_rfl) (by kernel_rfl) (fun _ _ _ h=>h) ⟨Or.inl ⟨by rfl,?_⟩,fun _=>rfl⟩ ?_
            rotate_left
            · intro w
              go_simp
              try with_reducible rfl
            rotate_left
            try simp only [Act.put,zq0,zq1,zq2,zq3,zq4,zq5]
            refine wpAnyIn_done (by kernel_rfl) ?_ _
            gi_wp2
            go_roundw
            case rel=>exact ⟨k + 1,by omega,by first | exact round_same HWK | go_num,by rw [HST.out];exact hJ3,HKP.out.trans (KeepL.trans (fun p v hp hv=>hv) hk3)⟩
            case measure=>first | exact round_less HWK hlt | (simp [intOf];omega)
          · dsimp only
            refine hK _ _ ?_
            clear hK K
            refine wpAnyIn_take (i:=10) (v:=?_) hro rfl (by kernel_rfl) (by kernel_rfl) (by kernel_rfl) (fun _ _ _ h=>h) ⟨Or.inl ⟨by rfl,?_⟩,fun _=>rfl⟩ ?_
            rotate_left
            · intro w
              go_simp
              try with_reducible rfl
            rotate_left
            try simp only [Act.put,zq0,zq1,zq2,zq3,zq4,zq5]
            refine wpAnyIn_done (by kernel_rfl) ?_ _
            gi_wp2
            first | go_end0 | (refine bodyPost_ret (results_none rfl _ _ _) rfl ?_)
            exact ⟨⟨_,rfl⟩,.inr ⟨_,by rw [← HST.out];exact List.take_prefix _ _,hJx3⟩⟩
    · go_simp
      refine hK _ _ ?_
      clear hK K
      try simp only [Act.put,zq0,zq1,zq2,zq3,zq4,zq5]
      refine wpAnyIn_take (i:=7) (v:=?_) hro rfl (by kernel_rfl) (by kernel_rfl) (by kernel_rfl) (fun _ _ _ h=>h) ⟨Or.inl ⟨by rfl,?_⟩,fun _=>rfl⟩ ?_
      rotate_left
      · intro w
        go_simp
        try with_reducible rfl
      rotate_left
      try simp only [Act.put,zq0,zq1,zq2,zq3,zq4,zq5]
      refine wpAnyIn_ready (rs:=[1,8]) (by kernel_rfl) (by simp) ?_
      refine AllReadyIn.cons rfl (fun K hK=>?_) (AllReadyIn.cons rfl (fun K hK=>?_) AllReadyIn.nil)
      · go_simp
        refine hK _ _ ?_
        clear hK K
        try simp only [Act.put,zq0,zq1,zq2,zq3,zq4,zq5]
        refine wpAnyIn_take (i:=3) (v:=?_) hro rfl (by kernel_rfl) (by kernel_rfl) (by kernel_rfl) (fun _ _ _ h=>h) ⟨Or.inl ⟨by rfl,?_⟩,fun _=>rfl⟩ ?_
        rotate_left
        · intro w
          go_simp
          try with_reducible rfl
        rotate_left
        try simp only [Act.put,zq0,zq1,zq2,zq3,zq4,zq5]
        refine wpAnyIn_ready (rs:=[4,8]) (by kernel_rfl) (by simp) ?_
        refine AllReadyIn.cons rfl (fun K hK=>?_) (AllReadyIn.cons rfl (fun K hK=>?_) AllReadyIn.nil)
        · go_simp
          refine hK _ _ ?_
          clear hK K
          try simp only [Act.put,zq0,zq1,zq2,zq3,zq4,zq5]
          refine wpAnyIn_ready (rs:=[8]) (by kernel_rfl) (by simp) ?_
          refine AllReadyIn.cons rfl (fun K hK=>?_) AllReadyIn.nil
          go_simp
          refine hK _ _ ?_
          clear hK K
          try simp only [Act.put,zq0,zq1,zq2,zq3,zq4,zq5]
          refine wpAnyIn_ready (rs:=[9]) (by kernel_rfl) (by simp) ?_
          refine AllReadyIn.cons rfl (fun K hK=>?_) AllReadyIn.nil
          go_simp
          refine hR.mono ?_
          rintro e W3 (⟨rfl,hJ3,hk3⟩ | ⟨rfl,hJx3⟩)
          · dsimp only
            refine hK _ _ ?_
            clear hK K
            refine wpAnyIn_take (i:=10) (v:=?_) hro rfl (by kernel_rfl) (by kernel_rfl) (by kernel_rfl) (fun _ _ _ h=>h) ⟨Or.inl ⟨by rfl,?_⟩,fun _=>rfl⟩ ?_
            rotate_left
            · intro w
              go_simp
              try with_reducible rfl
            rotate_left
            try simp only [Act.put,zq0,zq1,zq2,zq3,zq4,zq5]
            refine wpAnyIn_done (by kernel_rfl) ?_ _
            gi_wp2
            go_roundw
            case rel=>exact ⟨k + 1,by omega,by first | exact round_same HWK | go_num,by rw [HST.out];exact hJ3,HKP.out.trans (KeepL.trans (fun p v hp hv=>hv) hk3)⟩
            case measure=>first | exact round_less HWK hlt | (simp [intOf];omega)
          · dsimp only
            refine hK _ _ ?_
            clear hK K
            refine wpAnyIn_take (i:=10) (v:=?_) hro rfl (by kernel_rfl) (by kernel_rfl) (by kernel_rfl) (fun _ _ _ h=>h) ⟨Or.inl ⟨by rfl,?_⟩,fun _=>rfl⟩ ?_
            rotate_left
            · intro w
              go_simp
              try with_reducible rfl
            rotate_left
            try simp only [Act.put,zq0,zq1,zq2,zq3,zq4,zq5]
            refine wpAnyIn_done (by kernel_rfl) ?_ _
            gi_wp2
            first | go_end0 | (refine bodyPost_ret (results_none rfl _ _ _) rfl ?_)
            exact ⟨⟨_,rfl⟩,.inr ⟨_,by rw [← HST.out];exact List.take_prefix _ _,hJx3⟩⟩
        · go_simp
          refine hK _ _ ?_
          clear hK K
          try simp only [Act.put,zq0,zq1,zq2,zq3,zq4,zq5]
          refine wpAnyIn_ready (rs:=[4]) (by kernel_rfl) (by simp) ?_
          refine AllReadyIn.cons rfl (fun K hK=>?_) AllReadyIn.nil
          go_simp
          refine hK _ _ ?_
          clear hK K
          try simp only [Act.put,zq0,zq1,zq2,zq3,zq4,zq5]
          refine wpAnyIn_ready (rs:=[9]) (by kernel_rfl) (by simp) ?_
          refine AllReadyIn.cons rfl (fun K hK=>?_) AllReadyIn.nil
          go_simp
          refine hR.mono ?_
          rintro e W3 (⟨rfl,hJ3,hk3⟩ | ⟨rfl,hJx3⟩)
          · dsimp only
            refine hK _ _ ?_
            clear hK K
            refine wpAnyIn_take (i:=10) (v:=?_) hro rfl (by kernel_rfl) (by kernel_rfl) (by kernel_rfl) (fun _ _ _ h=>h) ⟨Or.inl ⟨by rfl,?_⟩,fun _=>rfl⟩ ?_
            rotate_left
            · intro w
              go_simp
              try with_reducible rfl
            rotate_left
            try simp only [Act.put,zq0,zq1,zq2,zq3,zq4,zq5]
            refine wpAnyIn_done (by kernel_rfl) ?_ _
            gi_wp2
            go_roundw
            case rel=>exact ⟨k + 1,by omega,by first | exact round_same HWK | go_num,by rw [HST.out];exact hJ3,HKP.out.trans (KeepL.trans (fun p v hp hv=>hv) hk3)⟩
            case measure=>first | exact round_less HWK hlt | (simp [intOf];omega)
          · dsimp only
            refine hK _ _ ?_
            clear hK K
            refine wpAnyIn_take (i:=10) (v:=?_) hro rfl (by kernel_rfl) (by kernel_rfl) (by kernel_rfl) (fun _ _ _ h=>h) ⟨Or.inl ⟨by rfl,?_⟩,fun _=>rfl⟩ ?_
            rotate_left
            · intro w
              go_simp
              try with_reducible rfl
            rotate_left
            try simp only [Act.put,zq0,zq1,zq2,zq3,zq4,zq5]
            refine wpAnyIn_done (by kernel_rfl) ?_ _
            gi_wp2
            first | go_end0 | (refine bodyPost_ret (results_none rfl _ _ _) rfl ?_)
            exact ⟨⟨_,rfl⟩,.inr ⟨_,by rw [← HST.out];exact List.take_prefix _ _,hJx3⟩⟩
      · go_simp
        refine hK _ _ ?_
        clear hK K
        try simp only [Act.put,zq0,zq1,zq2,zq3,zq4,zq5]
        refine wpAnyIn_ready (rs:=[1]) (by kernel_rfl) (by simp) ?_
        refine AllReadyIn.cons rfl (fun K hK=>?_) AllReadyIn.nil
        go_simp
        refine hK _ _ ?_
        clear hK K
        try simp only [Act.put,zq0,zq1,zq2,zq3,zq4,zq5]
        refine wpAnyIn_take (i:=3) (v:=?_) hro rfl (by kernel_rfl) (by kernel_rfl) (by kernel_rfl) (fun _ _ _ h=>h) ⟨Or.inl ⟨by rfl,?_⟩,fun _=>rfl⟩ ?_
        rotate_left
        · intro w
          go_simp
          try with_reducible rfl
        rotate_left
        try simp only [Act.put,zq0,zq1,zq2,zq3,zq4,zq5]
        refine wpAnyIn_ready (rs:=[4]) (by kernel_rfl) (by simp) ?_
        refine AllReadyIn.cons rfl (fun K hK=>?_) AllReadyIn.nil
        go_simp
        refine hK _ _ ?_
        clear hK K
        try simp only [Act.put,zq0,zq1,zq2,zq3,zq4,zq5]
        refine wpAnyIn_ready (rs:=[9]) (by kernel_rfl) (by simp) ?_
        refine AllReadyIn.cons rfl (fun K hK=>?_) AllReadyIn.nil
        go_simp
        refine hR.mono ?_
        rintro e W3 (⟨rfl,hJ3,hk3⟩ | ⟨rfl,hJx3⟩)
        · dsimp only
          refine hK _ _ ?_
          clear hK K
          refine wpAnyIn_take (i:=10) (v:=?_) hro rfl (by kernel_rfl) (by kernel_rfl) (by kernel_rfl) (fun _ _ _ h=>h) ⟨Or.inl ⟨by rfl,?_⟩,fun _=>rfl⟩ ?_
          rotate_left
          · intro w
            go_simp
            try with_reducible rfl
          rotate_left
          try simp only [Act.put,zq0,zq1,zq2,zq3,zq4,zq5]
          refine wpAnyIn_done (by kernel_rfl) ?_ _
          gi_wp2
          go_roundw
          case rel=>exact ⟨k + 1,by omega,by first | exact round_same HWK | go_num,by rw [HST.out];exact hJ3,HKP.out.trans (KeepL.trans (fun p v hp hv=>hv) hk3)⟩
          case measure=>first | exact round_less HWK hlt | (simp [intOf];omega)
        · dsimp only
          refine hK _ _ ?_
          clear hK K
          refine wpAnyIn_take (i:=10) (v:=?_) hro rfl (by kernel_rfl) (by kernel_rfl) (by kernel_rfl) (fun _ _ _ h=>h) ⟨Or.inl ⟨by rfl,?_⟩,fun _=>rfl⟩ ?_
          rotate_left
          · intro w
            go_simp
            try with_reducible rfl
          rotate_left
          try simp only [Act.put,zq0,zq1,zq2,zq3,zq4,zq5]
          refine wpAnyIn_done (by kernel_rfl) ?_ _
          gi_wp2
          first | go_end0 | (refine bodyPost_ret (results_none rfl _ _ _) rfl ?_)
          exact ⟨⟨_,rfl⟩,.inr ⟨_,by rw [← HST.out];exact List.take_prefix _ _,hJx3⟩⟩
  · have hkm : k = m:=by omega
    have hall : (List.finRange m).take k = List.finRange m:=by rw [hkm];exact List.take_of_length_le (by simp)
    rw [hall] at hJs
    have HJ:=Lib.hid hJs
    clear hall hJs hY
    gi_wp2
    all_goals
     go_end0
     exact ⟨⟨_,rfl⟩,.inl ⟨_,rfl,HJ.out⟩⟩
set_option maxHeartbeats 1000000 in
theorem both_in (F : Fence) (n : Nat) (h22 : F.fn 77) (hro : F.round = none) (A B : Option Addr) (na ca nb cb : Nat) (w : World) :
 CallsIn F n Try.prog 77 #[.slice A na ca,.slice B nb cb] w fun e w'=>e = .returned (.func (.func 87) #[] #[.pointer (some ⟨w.heap.size,0,none⟩),.pointer (some ⟨w.heap.size + 1,0,none⟩)]) ∧ w' = (w.alloc (.cells #[.slice A na ca] 62)).alloc (.cells #[.slice B nb cb] 25):=by
 have hmf : ∀ (fn : Fn) (first cap : Array Value) (w : World),(Instr.makeFunc fn first cap).run Try.prog w = .ok (.func fn first cap) w:=fun _ _ _ _=>rfl
 refine callsIn_of_wp Try.func77 rfl h22 ?_ hro
 simp only [Try.ntmps77,List.size_toArray,List.length_cons,List.length_nil,Nat.reduceAdd,Nat.reduceSub,Array.replicate_succ,Array.replicate_zero,List.push_toArray,List.append_toArray,List.nil_append,List.cons_append]
 gi_wp2
 go_ret
 exact ⟨rfl,rfl⟩
theorem both_stops (F : Fence) (n : Nat) (h33 : F.fn 87) (hro : F.round = none) (hn : 1 ≤ n) (gx gy base : Nat) (ms : List Int) (vs : List Value) (A B : Option Addr) (ca cb : Nat) (m : Nat) (hm : ((m : Nat) : Int) = min (ms.length : Int) (vs.length : Int)) (hmx : m ≤ maxLen) (w : World) (hbase : base ≤ w.heap.size)
 (hgx : gx < base) (hgy : gy < base)
 (hx : w.cell? ⟨gx,0,none⟩ = some (.slice A ms.length ca)) (hy : w.cell? ⟨gy,0,none⟩ = some (.slice B vs.length cb))
 (hA : ∀ i,i < ms.length → ∃ b o,A = some ⟨b,o,none⟩ ∧ b < base ∧ w.cell? ⟨b,o + i,none⟩ = some (.int .i64 (ms.getD i 0))) (hB : ∀ i,i < vs.length → ∃ b o,B = some ⟨b,o,none⟩ ∧ b < base ∧ w.cell? ⟨b,o + i,none⟩ = some (vs.getD i undef)) (hV : ∀ i,i < vs.length → ∃ A n c,vs.getD i undef = .slice A n c) :
 SeqStopsK F n Try.prog 87 #[.pointer (some ⟨gx,0,none⟩),.pointer (some ⟨gy,0,none⟩)] (encB ms vs (m:=m)) (KeepL base) (fun ys=>ys = List.finRange m) (fun pre=>pre <+: List.finRange m) m w:=fun l J Jx W hW hJ _ hY h0=>by
 have tr : ∀ (p : Addr) (v : Value),p.block < base → w.cell? p = some v → W.cell? p = some v:=fun p v hp hv=>(hW.cell (Nat.lt_of_lt_of_le hp hbase)).trans hv
 exact both1_in F n h33 hro hn l gx gy base ms vs A B ca cb m hm hmx J Jx W hJ hY hgx hgy (tr _ _ hgx hx) (tr _ _ hgy hy)
  (fun i hi=>by obtain ⟨b,o,h1,h2,h3⟩:=hA i hi;exact ⟨b,o,h1,h2,tr _ _ h2 h3⟩) (fun i hi=>by obtain ⟨b,o,h1,h2,h3⟩:=hB i hi;exact ⟨b,o,h1,h2,tr _ _ h2 h3⟩) hV h0
end Go.Proofs.Ytclbihcggjjgaaa
namespace Go.Proofs.Ytclbihcggjjgaaa
open Go Go.RowKit Go.Shelf
set_option linter.unusedSimpArgs false
set_option linter.unusedVariables false
attribute [local go_sem] Oper.semAt_some
theorem results_bool {fn : Func} {p : Tmp} (h : fn.results = #[.cell p 4]) (tmps : Array Value) (w : World) (g : Nat) (v : Value)
 (hp : tmps.getD p undef = .pointer (some ⟨g,0,none⟩)) (hg : w.cell? ⟨g,0,none⟩ = some v) : (results fn tmps).run Try.prog w = .ok v w:=by
 have hp' : tmps[p]?.getD undef = .pointer (some ⟨g,0,none⟩):=by simpa using hp
 simp [results,h,hp',asAddr,go_sem,hg]
 try rfl
set_option maxRecDepth 100000 in
set_option maxHeartbeats 2000000 in
theorem smarks_plain (S : Nat → Prop) (ys : List (List (List UInt8))) (B : Option Addr) (d : Nat) (nu k a y : Int) (hk : ¬ k = 4) (Ab : Option Addr) (nb cb : Nat) (ms : List Int) (Am : Option Addr) (cm : Nat) (w : World) :
 Calls Try.prog 48 #[.agg #[.int .i64 nu,.int .u8 k,.int .i64 a,.int .i64 y,.slice Ab nb cb,.slice Am ms.length cm],.slice B ys.length d] w fun e w'=>YesNo (MarksOk k ms ys) e ∧ Below w.heap.size w w':=by
 have hk' : (k != 4) = true:=by simp [hk]
 have HK : Hid (MarksOk k ms ys ↔ ms.length = 0):=by show _ ↔ _;unfold MarksOk;rw [if_neg hk]
 clear hk
 have P0:=BoxOf.alloc (BoxOf.new w #[.int .i64 nu,.int .u8 k,.int .i64 a,.int .i64 y,.slice Ab nb cb,.slice Am ms.length cm] 64) (.cells #[.bool false] 4)
 have R0:=BoxOf.new' (w.alloc (.cells #[.int .i64 nu,.int .u8 k,.int .i64 a,.int .i64 y,.slice Ab nb cb,.slice Am ms.length cm] 64)) (w.heap.size + 1) #[.bool false] 4 (by simp)
 have t0:=Ext.alloc (Ext.alloc (Below.refl w.heap.size w) (.cells #[.int .i64 nu,.int .u8 k,.int .i64 a,.int .i64 y,.slice Ab nb cb,.slice Am ms.length cm] 64)) (.cells #[.bool false] 4)
 go_enter Try.func48,Try.ntmps48
 go_upto_region 1 with fail
 generalize (w.alloc (.cells #[.int .i64 nu,.int .u8 k,.int .i64 a,.int .i64 y,.slice Ab nb cb,.slice Am ms.length cm] 64)).alloc (.cells #[.bool false] 4) = W at *
 have x0:=P0.cell
 have f0:=R0.free
 have y0:=R0.cell
 go_wp2
 have R1 : BoxOf _ (w.heap.size + 1) #[.bool ((ms.length : Int) == 0)] 4:=mbox_self R0 0 (.bool ((ms.length : Int) == 0))
 have t1:=Below.setCell (p:=⟨w.heap.size + 1,0,none⟩) t0 (show w.heap.size ≤ w.heap.size + 1 by omega) (.bool ((ms.length : Int) == 0))
 refine bodyPost_ret (results_bool rfl _ _ (w.heap.size + 1) (.bool ((ms.length : Int) == 0)) rfl ((R1.cell 0).trans rfl)) rfl ⟨YesNo.of (by rw [HK.out];simp),t1⟩
def UPM (e : Array Value) (t : Array Value) : Array Value:=(((t.setIfInBounds 19 (e.getD 0 undef)).setIfInBounds 20 (e.getD 1 undef)).setIfInBounds 5 (e.getD 0 undef)).setIfInBounds 6 (e.getD 1 undef)
theorem own_cells {B : Nat} {g : Nat} {W W' : World} {row : Option Nat} {cs : Array Value} {t : TypeId} (h : BoxOf W g cs t) (hg : W.grownBy W' row) (hr : ∀ r,row = some r → B ≤ r ∧ ∃ o : Obj,W.heap[r]? = some o ∧ o.isCells = false) : BoxOf W' g cs t:=by
 refine h.grown hg fun e=>?_
 obtain ⟨_,o,ho,hc⟩:=hr g e
 have h1 : W.heap[g]? = some (.cells cs t (0,0)):=h
 rw [h1] at ho
 cases ho
 simp [Obj.isCells] at hc
theorem may_vals {w : World} {S : Nat → Prop} {ys : List (List (List UInt8))} {A : Option Addr} {c : Nat} (h : RdIn w S (.sl (.sl (.sl .byte))) ys [.slice A ys.length c]) :
 ∃ vs : List Value,vs.length = ys.length ∧ ∀ i (hi : i < ys.length),(∃ A' c',vs.getD i undef = .slice A' (ys[i]).length c') ∧ ∃ b off,A = some ⟨b,off,none⟩ ∧ b < w.heap.size ∧ w.cell? ⟨b,off + i,none⟩ = some (vs.getD i undef):=by
 have each : ∀ i,i < ys.length → ∃ v : Value,(∀ hi : i < ys.length,(∃ A' c',v = .slice A' (ys[i]).length c')) ∧ ∃ b off,A = some ⟨b,off,none⟩ ∧ b < w.heap.size ∧ w.cell? ⟨b,off + i,none⟩ = some v:=by
  intro i hi
  obtain ⟨b,off,A2,c2,e,q,r⟩:=may_at h hi
  exact ⟨_,fun _=>⟨A2,c2,rfl⟩,b,off,e,block_lt_of_cell q,q⟩
 obtain ⟨l,hl,hr⟩:=choose_list (R:=fun i v=>(∀ hi : i < ys.length,(∃ A' c',v = .slice A' (ys[i]).length c')) ∧ ∃ b off,A = some ⟨b,off,none⟩ ∧ b < w.heap.size ∧ w.cell? ⟨b,off + i,none⟩ = some v) ys.length each
 refine ⟨l,hl,fun i hi=>?_⟩
 have e : l.getD i undef = l[i]'(by omega):=by rw [List.getD_eq_getElem?_getD,List.getElem?_eq_getElem (by omega)];rfl
 rw [e]
 exact ⟨(hr i (by omega)).1 hi,(hr i (by omega)).2⟩
theorem both_loop {ms : List Int} {vs : List Value} {m gx gy base : Nat} {g : Operand} {ps : Array Tmp} {assign body : Code} {Q : Exit → Act → World → Prop} {a : Act} {w : World} (U : Array Value → Array Value → Array Value) (hg : a.eval g = .func (.func 87) #[] #[.pointer (some ⟨gx,0,none⟩),.pointer (some ⟨gy,0,none⟩)])
 {S Sp : List (Fin m) → Prop} (hseq : SeqStopsK Fence.wide (3 - 1) Try.prog 87 #[.pointer (some ⟨gx,0,none⟩),.pointer (some ⟨gy,0,none⟩)] (encB ms vs (m:=m)) (KeepL base) S Sp m w) (hps : ps.size = 2)
 (I : List (Fin m) → World → Prop) (Ix : Code → List (Fin m) → World → Prop) (hI : OwnFrom w.heap.size I) (hIx : ∀ c,OwnFrom w.heap.size (Ix c)) (h0 : I [] w)
 (hassign : ∀ (l : Nat) (x : Fin m) (W : World) (K : Act → World → Prop),K { tmps:=U (encB ms vs x) a.tmps,defers:=[] } W →
   assign.wpIn (Fence.wide.inRound l) (3 - 1 - 1) Try.prog (Exit.then K (fun _ _ _=>False)) { tmps:=(ps.zip (encB ms vs x)).foldl (fun t (p,v)=>t.setIfInBounds p v) a.tmps,defers:=[] } W)
 (hbody : ∀ (l : Nat) (pre : List (Fin m)) (x : Fin m) (W : World),I pre W → pre.length < m → body.wpIn (Fence.wide.inRound l) (3 - 1 - 1) Try.prog (ownPostK (KeepL base) I Ix (pre ++ [x]) W) { tmps:=U (encB ms vs x) a.tmps,defers:=[] } W)
 (hdone : ∀ (D : Nat) (xs : List (Fin m)) (W : World),w.heap.size ≤ D → S xs → I xs W → W.heap[D]? = some (.deferred (some [])) → Q .normal { a with defers:={ target:=.collected D,args:=#[] } :: a.defers } W)
 (hstop : ∀ (D : Nat) (c : Code) (pre : List (Fin m)) (W : World),w.heap.size ≤ D → Sp pre → Ix c pre W → W.heap[D]? = some (.deferred (some [])) → c.wpIn Fence.wide 3 Try.prog Q { a with defers:={ target:=.collected D,args:=#[] } :: a.defers } W) :
 (Code.rangeFunc g ps assign body).wpIn Fence.wide 3 Try.prog Q a w:=
 wpIn_rangeFunc_ownF rfl (by decide) hg trivial (enters_of Try.func87 (by kernel_rfl) rfl) hseq (fun h k=>h.trans k) (keepL_b base) (Below.refl _ _) (fun x=>by rw [hps];rfl) I Ix hI hIx h0 (fun x=>{ tmps:=U (encB ms vs x) a.tmps,defers:=[] }) hassign hbody hdone hstop
set_option maxRecDepth 100000 in
set_option maxHeartbeats 2000000 in
theorem smarks_flush (S S' : Nat → Prop) (ys : List (List (List UInt8))) (B : Option Addr) (d : Nat) (nu k a y : Int) (hk : k = 4) (Ab : Option Addr) (nb cb : Nat) (ms : List Int) (Am : Option Addr) (cm : Nat) (w : World) (hy : RdIn w S (.sl (.sl (.sl .byte))) ys [.slice B ys.length d]) (hm : RdIn w S' (.sl .int) ms [.slice Am ms.length cm]) :
 Calls Try.prog 48 #[.agg #[.int .i64 nu,.int .u8 k,.int .i64 a,.int .i64 y,.slice Ab nb cb,.slice Am ms.length cm],.slice B ys.length d] w fun e w'=>YesNo (MarksOk k ms ys) e ∧ Below w.heap.size w w':=by
 have hk' : (k != 4) = false:=by simp [hk]
 have HK : Hid (MarksOk k ms ys ↔ (ms.length = ys.length ∧ ∀ i,MarkOk ms ys i)):=by show _ ↔ _;unfold MarksOk;rw [if_pos hk]
 clear hk
 obtain ⟨vs,hvl,hv⟩:=may_vals hy
 have HVL:=Lib.hid hvl
 have HV:=Lib.hid hv
 have HYM:=Lib.hid (may_max hy)
 have HMM:=Lib.hid (mark_max hm)
 have hma : Hid (∀ i,i < ms.length → ∃ b o,Am = some ⟨b,o,none⟩ ∧ b < w.heap.size ∧ w.cell? ⟨b,o + i,none⟩ = some (.int .i64 (ms.getD i 0))):=fun i hi=>by
  obtain ⟨b,o,e,q,_⟩:=mark_at hm hi
  refine ⟨b,o,e,block_lt_of_cell q,?_⟩
  rw [q,List.getD_eq_getElem?_getD,List.getElem?_eq_getElem hi]
  rfl
 clear hy hm hv
 refine (callsIn_wide (n:=3)).1 ?_
 refine callsIn_of_wp_marks Try.func48 rfl trivial ?_ rfl
 simp only [Try.ntmps48,List.size_toArray,List.length_cons,List.length_nil,Nat.reduceAdd,Nat.reduceSub,Array.replicate_succ,Array.replicate_zero,List.push_toArray,List.append_toArray,List.nil_append,List.cons_append]
 have P0:=BoxOf.alloc (BoxOf.new w #[.int .i64 nu,.int .u8 k,.int .i64 a,.int .i64 y,.slice Ab nb cb,.slice Am ms.length cm] 64) (.cells #[.bool false] 4)
 have R0:=BoxOf.new' (w.alloc (.cells #[.int .i64 nu,.int .u8 k,.int .i64 a,.int .i64 y,.slice Ab nb cb,.slice Am ms.length cm] 64)) (w.heap.size + 1) #[.bool false] 4 (by simp)
 have t0:=Ext.alloc (Ext.alloc (Below.refl w.heap.size w) (.cells #[.int .i64 nu,.int .u8 k,.int .i64 a,.int .i64 y,.slice Ab nb cb,.slice Am ms.length cm] 64)) (.cells #[.bool false] 4)
 have hbs : w.heap.size + 2 ≤ ((w.alloc (.cells #[.int .i64 nu,.int .u8 k,.int .i64 a,.int .i64 y,.slice Ab nb cb,.slice Am ms.length cm] 64)).alloc (.cells #[.bool false] 4)).heap.size:=by simp
 have hsz : ((w.alloc (.cells #[.int .i64 nu,.int .u8 k,.int .i64 a,.int .i64 y,.slice Ab nb cb,.slice Am ms.length cm] 64)).alloc (.cells #[.bool false] 4)).heap.size = w.heap.size + 2:=by simp
 have HSZ:=Lib.hid hsz
 clear hbs hsz
 gi_wp2_with fail
 generalize (w.alloc (.cells #[.int .i64 nu,.int .u8 k,.int .i64 a,.int .i64 y,.slice Ab nb cb,.slice Am ms.length cm] 64)).alloc (.cells #[.bool false] 4) = W at *
 refine ⟨trivial,(both_in Fence.wide 2 trivial rfl Am B ms.length cm ys.length d W).mono ?_⟩
 rintro e w7 ⟨rfl,rfl⟩
 have P1:=(P0.alloc (.cells #[.slice Am ms.length cm] 62)).alloc (.cells #[.slice B ys.length d] 25)
 have R1:=(R0.alloc (.cells #[.slice Am ms.length cm] 62)).alloc (.cells #[.slice B ys.length d] 25)
 have X1:=BoxOf.alloc (BoxOf.new W #[.slice Am ms.length cm] 62) (.cells #[.slice B ys.length d] 25)
 have Y1:=BoxOf.new' (W.alloc (.cells #[.slice Am ms.length cm] 62)) (W.heap.size + 1) #[.slice B ys.length d] 25 (by simp)
 have t1:=Ext.alloc (Ext.alloc t0 (.cells #[.slice Am ms.length cm] 62)) (.cells #[.slice B ys.length d] 25)
 rw [HSZ.out] at X1 Y1
 obtain ⟨base,hbase⟩ : ∃ z : Nat,z = w.heap.size + 4:=⟨_,rfl⟩
 have hsz2 : ((W.alloc (.cells #[.slice Am ms.length cm] 62)).alloc (.cells #[.slice B ys.length d] 25)).heap.size = base:=by simp [HSZ.out,hbase]
 rw [HSZ.out]
 generalize (W.alloc (.cells #[.slice Am ms.length cm] 62)).alloc (.cells #[.slice B ys.length d] 25) = V at *
 clear P0 R0 t0 HSZ
 obtain ⟨m,hmm⟩ : ∃ m : Nat,m = min ms.length vs.length:=⟨_,rfl⟩
 have tr : Hid (∀ (p : Addr) (v : Value),p.block < w.heap.size → w.cell? p = some v → V.cell? p = some v):=fun p v hp hv=>(t1.cell hp).trans hv
 have x1:=X1.cell 0
 have y1:=Y1.cell 0
 have hV9 : base ≤ V.heap.size:=by omega
 have hseq:=both_stops Fence.wide (3 - 1) trivial rfl (by decide) (w.heap.size + 2) (w.heap.size + 2 + 1) base ms vs Am B cm d m (by rw [hmm];omega) (by have:=HMM.out;omega) V hV9 (by omega) (by omega) (x1.trans rfl) (y1.trans (by rw [HVL.out];rfl))
  (fun i hi=>by obtain ⟨b,o,e1,e2,e3⟩:=hma.out i hi;exact ⟨b,o,e1,by omega,tr.out _ _ e2 e3⟩)
  (fun i hi=>by obtain ⟨_,b,o,e1,e2,e3⟩:=HV.out i (by have:=HVL.out;omega);exact ⟨b,o,e1,by omega,tr.out _ _ e2 e3⟩)
  (fun i hi=>by obtain ⟨⟨A',c',e⟩,_⟩:=HV.out i (by have:=HVL.out;omega);exact ⟨A',_,c',e⟩)
 have hsz3 : w.heap.size + 4 ≤ V.heap.size:=by omega
 have HSZ:=Lib.hid (And.intro hbase (And.intro hsz2 hsz3))
 have HMM2:=Lib.hid hmm
 clear x1 y1 hV9 hsz2 hsz3 hbase hmm X1 Y1
 gi_wp2_with fail
 refine both_loop UPM rfl hseq rfl
  (fun pre W=>BoxOf W w.heap.size #[.int .i64 nu,.int .u8 k,.int .i64 a,.int .i64 y,.slice Ab nb cb,.slice Am ms.length cm] 64 ∧ BoxOf W (w.heap.size + 1) #[.bool false] 4 ∧ Below w.heap.size w W ∧ ∀ x ∈ pre,MarkOk ms ys x.val)
  (fun c pre W=>c = .ret ∧ BoxOf W (w.heap.size + 1) #[.bool false] 4 ∧ Below w.heap.size w W ∧ ¬ MarksOk k ms ys) ?own ?ownx ⟨P1,R1,t1,fun x h=>by cases h⟩ ?assign ?body ?done ?stop
 case own=>
  rintro pre W W' row ⟨h1,h2,h3,h4⟩ hgr hr
  exact ⟨own_cells h1 hgr hr,own_cells h2 hgr hr,h3.grown hgr h3.size (fun k e=>by have:=(hr k e).1;have:=HSZ.out;omega),h4⟩
 case ownx=>
  rintro c pre W W' row ⟨h1,h2,h3,h4⟩ hgr hr
  exact ⟨h1,own_cells h2 hgr hr,h3.grown hgr h3.size (fun k e=>by have:=(hr k e).1;have:=HSZ.out;omega),h4⟩
 case assign=>
  intro l x W K hK
  gi_wp2
  simpa [UPM,encB] using hK
 case stop=>
  rintro D c pre W hD _ ⟨rfl,hR,hbw,hno⟩ hDW
  have HNO:=Lib.hid hno
  clear hno
  gi_wp2
  refine ⟨by simp,.inl ⟨_,_,rfl,run_takeDeferred hDW,?_⟩⟩
  have hg:=grownBy_putObj' W D (.deferred none)
  have R2:=own_cells (B:=V.heap.size) hR hg (fun r e=>by cases e;exact ⟨hD,_,hDW,rfl⟩)
  have t2:=hbw.grown hg hbw.size (fun k e=>by cases e;have:=HSZ.out;omega)
  exact ⟨_,results_bool rfl _ _ (w.heap.size + 1) (.bool false) rfl ((R2.cell 0).trans rfl),YesNo.no HNO.out,t2⟩
 case body=>
  rintro l pre x W2 ⟨hP,hR,hbw,hall⟩ hlt
  simp only [UPM,encB,List.setIfInBounds_toArray,List.set_cons_zero,List.set_cons_succ,Array.getD_eq_getD_getElem?,List.getElem?_toArray,List.getElem?_cons_zero,List.getElem?_cons_succ,Option.getD_some]
  have hx1 : x.val < ms.length:=by have:=x.isLt;have:=HMM2.out;omega
  have hx2 : x.val < ys.length:=by have:=x.isLt;have:=HMM2.out;have:=HVL.out;omega
  obtain ⟨⟨A',c',ev⟩,_⟩:=HV.out x.val hx2
  have em : ms.getD x.val 0 = ms[x.val]:=by rw [List.getD_eq_getElem?_getD,List.getElem?_eq_getElem hx1];rfl
  rw [ev,em]
  have HMK : Hid (MarkOk ms ys x.val ↔ (0 ≤ ms[x.val] ∧ ms[x.val] < ((ys[x.val]).length : Int))):=⟨fun h=>h hx1 hx2,fun h _ _=>h⟩
  generalize ms[x.val] = z at *
  generalize ys[x.val] = zs at *
  have HALL:=Lib.hid hall
  clear hall ev em
  have fr:=hR.free
  have yr:=hR.cell
  rcases Bool.eq_false_or_eq_true (decide (z < 0)) with e1 | e1
  · have hno : ¬ MarksOk k ms ys:=fun h=>by
     have h2:=HMK.out.1 ((HK.out.1 h).2 x.val)
     have:=of_decide_eq_true e1
     omega
    have HNO:=Lib.hid hno
    clear hno
    gi_wp2
    exact ⟨KeepsOthers.setCell _ _ _,rfl,(show BoxOf _ _ #[.bool false] _ from mbox_self hR 0 (.bool false)),Below.setCell (p:=⟨w.heap.size + 1,0,none⟩) hbw (Nat.le_succ _) _,HNO.out⟩
  · rcases Bool.eq_false_or_eq_true (decide ((zs.length : Int) ≤ z)) with e2 | e2
    · have hno : ¬ MarksOk k ms ys:=fun h=>by
       have h2:=HMK.out.1 ((HK.out.1 h).2 x.val)
       have:=of_decide_eq_true e2
       omega
      have HNO:=Lib.hid hno
      clear hno
      gi_wp2
      exact ⟨KeepsOthers.setCell _ _ _,rfl,(show BoxOf _ _ #[.bool false] _ from mbox_self hR 0 (.bool false)),Below.setCell (p:=⟨w.heap.size + 1,0,none⟩) hbw (Nat.le_succ _) _,HNO.out⟩
    · have hx : Hid (MarkOk ms ys x.val):=HMK.out.2 (by have:=of_decide_eq_false e1;have:=of_decide_eq_false e2;omega)
      gi_wp2
      refine ⟨⟨Nat.le_refl _,fun _ _ h _=>h⟩,KeepL.refl _ _,hP,hR,hbw,fun y hy=>?_⟩
      rcases List.mem_append.1 hy with h | h
      · exact HALL.out y h
      · rw [List.mem_singleton] at h
        rw [h]
        exact hx.out
 case done=>
  rintro D xs W hD rfl ⟨hP,hR,hbw,hall⟩ hDW
  have HALL:=Lib.hid hall
  have xr:=hP.cell
  have fr:=hR.free
  have yr:=hR.cell
  have hDlt : D < W.heap.size:=(Array.getElem?_eq_some_iff.1 hDW).1
  have HDW:=Lib.hid hDW
  clear hall hDW
  gi_wp2_with fail
  have hne : D ≠ w.heap.size + 1:=by have:=HSZ.out;omega
  have R3 : BoxOf _ (w.heap.size + 1) #[.bool ((ms.length : Int) == (ys.length : Int))] 4:=mbox_self hR 0 (.bool ((ms.length : Int) == (ys.length : Int)))
  have t3:=Below.setCell (p:=⟨w.heap.size + 1,0,none⟩) hbw (Nat.le_succ _) (.bool ((ms.length : Int) == (ys.length : Int)))
  have hD3:=(Below.heap_setCell W ⟨w.heap.size + 1,0,none⟩ (.bool ((ms.length : Int) == (ys.length : Int))) D hne).trans HDW.out
  refine ⟨by simp,.inl ⟨_,_,rfl,run_takeDeferred hD3,?_⟩⟩
  have hg:=grownBy_putObj' (W.setCell ⟨w.heap.size + 1,0,none⟩ (.bool ((ms.length : Int) == (ys.length : Int)))) D (.deferred none)
  have R2:=own_cells (B:=V.heap.size) R3 hg (fun r e=>by cases e;exact ⟨hD,_,hD3,rfl⟩)
  have t2:=t3.grown hg t3.size (fun k e=>by cases e;have:=HSZ.out;omega)
  refine ⟨_,results_bool rfl _ _ (w.heap.size + 1) (.bool ((ms.length : Int) == (ys.length : Int))) rfl ((R2.cell 0).trans rfl),YesNo.of ?_,t2⟩
  rw [HK.out]
  constructor
  · intro h
    have hl : ms.length = ys.length:=by simp at h;omega
    exact ⟨hl,fun i h1 h2=>HALL.out ⟨i,by have:=HMM2.out;have:=HVL.out;omega⟩ (by simp) h1 h2⟩
  · rintro ⟨h,_⟩
    simp [h]
theorem smarks_any (S S' : Nat → Prop) (ys : List (List (List UInt8))) (B : Option Addr) (d : Nat) (nu k a y : Int) (Ab : Option Addr) (nb cb : Nat) (ms : List Int) (Am : Option Addr) (cm : Nat) (w : World) (hy : RdIn w S (.sl (.sl (.sl .byte))) ys [.slice B ys.length d]) (hm : RdIn w S' (.sl .int) ms [.slice Am ms.length cm]) :
 Calls Try.prog 48 #[.agg #[.int .i64 nu,.int .u8 k,.int .i64 a,.int .i64 y,.slice Ab nb cb,.slice Am ms.length cm],.slice B ys.length d] w fun e w'=>YesNo (MarksOk k ms ys) e ∧ Below w.heap.size w w':=by
 by_cases hk : k = 4
 · exact smarks_flush S S' ys B d nu k a y hk Ab nb cb ms Am cm w hy hm
 · exact smarks_plain S ys B d nu k a y hk Ab nb cb ms Am cm w
end Go.Proofs.Ytclbihcggjjgaaa
namespace Go.Proofs.Ytclbihcggjjgaaa
open Go Go.RowKit
set_option linter.unusedSimpArgs false
set_option linter.unusedVariables false
def OkBad (P : Prop) (e : Ending) : Prop:=(P ∧ e = .returned (.int .i64 0)) ∨ (¬ P ∧ e = .returned (.int .i64 8))
theorem OkBad.ok {P : Prop} (h : P) : OkBad P (.returned (.int .i64 0)):=.inl ⟨h,rfl⟩
theorem OkBad.bad {P : Prop} (h : ¬ P) : OkBad P (.returned (.int .i64 8)):=.inr ⟨h,rfl⟩
def LastIs (gs : List GoTy.T) (j : Nat) (last : Int) : Prop:=0 ≤ last ∧ (j = 0 → last = 0) ∧ (∀ (h : j - 1 < gs.length),0 < j → last = nuOf gs[j - 1])
theorem LastIs.none (gs : List GoTy.T) : LastIs gs 0 0:=⟨Int.le_refl 0,fun _=>rfl,fun _ h=>absurd h (Nat.lt_irrefl 0)⟩
theorem LastIs.next {gs : List GoTy.T} {j : Nat} {n last : Int} (h : LastIs gs j last) (hn : last < n) (hj : ∀ h : j < gs.length,nuOf gs[j] = n) : LastIs gs (j + 1) n:=
 ⟨by have:=h.1;omega,fun h=>by omega,fun h0 _=>(hj h0).symm⟩
theorem LastIs.no {x : Cfg} {ys : List (List (List UInt8))} {gs : List GoTy.T} {j : Nat} {last : Int} (h : LastIs gs j last) (hj : j < gs.length) (hn : nuOf gs[j] ≤ last) : ¬ GoOk x ys gs j:=by
 intro hg
 obtain ⟨h1,h2⟩:=hg hj
 by_cases h0 : 0 < j
 · have h3:=h2 (by omega) h0
   have h4:=h.2.2 (by omega) h0
   omega
 · have h3:=h.2.1 (by omega)
   have:=h1.1
   omega
theorem LastIs.yes {x : Cfg} {ys : List (List (List UInt8))} {gs : List GoTy.T} {j : Nat} {last : Int} (h : LastIs gs j last) (hj : j < gs.length) (hn : last < nuOf gs[j]) (h1 : askCode x ((kiOf gs[j]).toNat : Int) (atOf gs[j]) (manyOf gs[j]) (datOf gs[j]).length = 0) (h2 : MarksOk ((kiOf gs[j]).toNat : Int) (mksOf gs[j]) ys) : GoOk x ys gs j:=fun _=>
 ⟨⟨by have:=h.1;omega,h1,h2⟩,fun h3 h0=>by have:=h.2.2 h3 h0;omega⟩
set_option maxRecDepth 100000 in
set_option maxHeartbeats 2000000 in
theorem spcheck_any (S : Nat → Prop) (x : Cfg) (ys : List (List (List UInt8))) (gs : List GoTy.T) (A : Option Addr) (ca : Nat) (B : Option Addr) (cb : Nat) (w : World) (hy : RdIn w S (.sl (.sl (.sl .byte))) ys [.slice A ys.length ca]) (hg : RdIn w S (.sl GoTy) gs [.slice B gs.length cb]) :
 Calls Try.prog 18 #[x.val,.agg #[.slice A ys.length ca,.slice B gs.length cb]] w fun e w'=>OkBad (PlainOk x ys gs) e ∧ Below w.heap.size w w':=by
 by_cases hx : x.Ok
 · have HB:=Lib.hid (blocks_ok x hx)
   have HX:=Lib.hid hx
   have HC : Hid (∀ (k a y : Int) (A : Option Addr) (n q : Nat) (w : World),Calls Try.prog 47 #[x.val,.agg #[.int .u8 k,.int .i64 a,.int .i64 y,.slice A n q]] w fun e w'=>e = .returned (.int .i64 (askCode x k a y n)) ∧ Below w.heap.size w w'):=scheck_all x
   obtain ⟨nbk,hnb⟩ : ∃ z,z = x.c * x.r * (x.m - 1):=⟨_,rfl⟩
   have HN:=Lib.hid hnb
   rw [← hnb] at HB
   clear hnb hx
   obtain ⟨id,m,c,r,l,h⟩:=x
   unfold Cfg.val at *
   dsimp only at *
   have C0:=BoxOf.alloc (BoxOf.new w #[.int .u32 (id : Int),.int .i64 m,.int .i64 c,.int .i64 r,.int .i64 l,.int .i64 h] 24) (.cells #[.slice A ys.length ca,.slice B gs.length cb] 28)
   have P0:=BoxOf.new' (w.alloc (.cells #[.int .u32 (id : Int),.int .i64 m,.int .i64 c,.int .i64 r,.int .i64 l,.int .i64 h] 24)) (w.heap.size + 1) #[.slice A ys.length ca,.slice B gs.length cb] 28 (by simp)
   have t0:=Ext.alloc (Ext.alloc (Below.refl w.heap.size w) (.cells #[.int .u32 (id : Int),.int .i64 m,.int .i64 c,.int .i64 r,.int .i64 l,.int .i64 h] 24)) (.cells #[.slice A ys.length ca,.slice B gs.length cb] 28)
   have HY:=Lib.hid (hy.below t0)
   have HG:=Lib.hid (hg.below t0)
   have HYM:=Lib.hid (may_max hy)
   have HGM:=Lib.hid (go_max hg)
   clear hy hg
   go_enter Try.func18,Try.ntmps18
   go_upto_region 1 with fail
   generalize (w.alloc (.cells #[.int .u32 (id : Int),.int .i64 m,.int .i64 c,.int .i64 r,.int .i64 l,.int .i64 h] 24)).alloc (.cells #[.slice A ys.length ca,.slice B gs.length cb] 28) = W at *
   have x0:=C0.cell
   go_wp2_with fail
   refine (HB.out _).mono ?_
   rintro e w1 ⟨rfl,b1⟩
   have C1:=C0.next b1
   have P1:=P0.next b1
   have t1:=Ext.trans t0 b1
   have HY1:=Lib.hid (HY.out.below b1)
   have HG1:=Lib.hid (HG.out.below b1)
   clear C0 P0 x0 HY HG t0
   have x1:=P1.cell
   rcases Bool.eq_false_or_eq_true ((ys.length : Int) != nbk) with e1 | e1
   · go_wp2
     go_ret
     exact ⟨OkBad.bad fun h=>by have:=h.len;have:=HN.out;simp_all,t1⟩
   · rcases Bool.eq_false_or_eq_true (decide ((8 : Int) < (gs.length : Int))) with e2 | e2
     · go_wp2
       go_ret
       exact ⟨OkBad.bad fun h=>by have:=h.few;have:=of_decide_eq_true e2;omega,t1⟩
     · have HL : Hid ((ys.length : Int) = nbk):=by show _ = _;simpa using e1
       have HF : Hid (gs.length ≤ 8):=by show _ ≤ _;have:=of_decide_eq_false e2;omega
       go_wp2
       clear e1 e2
       go_loopw [8,9,36] (fun u v i wr=>∃ (j : Nat),j ≤ ys.length ∧ i = .int .i64 j ∧ Below w1.heap.size w1 wr ∧ Hid (∀ i,i < j → ValOk ys i)) (fun _ _ i _=>ys.length - (intOf i).toNat)
       case atStart=>exact ⟨0,by omega,rfl,Below.refl _ _,fun i h=>absurd h (Nat.not_lt_zero _)⟩
       case round=>
        obtain ⟨j,hj,rfl,b2,HA⟩:=hrel
        have P2:=P1.next b2
        by_cases hlt : j < ys.length
        · obtain ⟨b,off,A2,c2,rfl,q2,r2⟩:=may_at (HY1.out.below b2) hlt
          have HVK : Hid (ValOk ys j ↔ RowOk ys[j]):=⟨fun h=>h hlt,fun h _=>h⟩
          generalize ys[j] = zs at *
          have HWJ:=next_wrap HYM.out hlt
          have HLJ:=Lib.hid hlt
          have HZM:=Lib.hid (val_max r2)
          have HR:=Lib.hid r2
          have HCF:=Lib.hid (has_check S zs A2 c2 wr r2)
          clear r2
          go_wp2_with fail
          refine HCF.out.mono ?_
          rintro e w3 ⟨⟨odd,rfl,hodd⟩,b3⟩
          have b4:=Ext.trans b2 b3
          have t4:=Ext.trans t1 b4
          have HOD:=Lib.hid hodd
          clear hodd
          rcases Bool.eq_false_or_eq_true (decide ((zs.length : Int) < 1)) with e1 | e1
          · go_wp2
            go_ret
            exact ⟨OkBad.bad fun h=>by have h2:=(HVK.out.1 (h.vals j)).1;have:=of_decide_eq_true e1;omega,t4⟩
          · rcases Bool.eq_false_or_eq_true (decide ((512 : Int) < (zs.length : Int))) with e2 | e2
            · go_wp2
              go_ret
              exact ⟨OkBad.bad fun h=>by have h2:=(HVK.out.1 (h.vals j)).2.1;have:=of_decide_eq_true e2;omega,t4⟩
            · have HZ : Hid (1 ≤ zs.length ∧ zs.length ≤ 512):=by show _ ∧ _;have:=of_decide_eq_false e1;have:=of_decide_eq_false e2;omega
              cases odd with
              | true=>
                go_wp2
                go_ret
                refine ⟨OkBad.bad fun h=>?_,t4⟩
                have h2:=(HVK.out.1 (h.vals j)).2.2
                obtain ⟨i,hi,h3⟩:=HOD.out.1 (by first | rfl | trivial)
                have h4:=h2 i hi
                unfold odd128 at h3
                rw [h4] at h3
                simp at h3
              | false=>
                have HA' : Hid (∀ i,i < j + 1 → ValOk ys i):=by
                  intro i hi
                  by_cases h : i = j
                  · subst h
                    refine HVK.out.2 ⟨HZ.out.1,HZ.out.2,fun q hq=>?_⟩
                    by_cases h5 : (zs[q]).length = 128
                    · exact h5
                    · exfalso
                      have:=HOD.out.2 ⟨q,hq,by unfold odd128;simp;omega⟩
                      cases this
                  · exact HA.out i (by omega)
                go_wp2
                go_roundw
                case rel=>exact ⟨j + 1,HLJ.out,by first | exact round_same HWJ | go_num,b4,HA'⟩
                case measure=>first | exact round_less HWJ HLJ.out | (have h:=HLJ.out;simp [intOf];omega)
        · have HV : Hid (∀ i,ValOk ys i):=fun i=>by
           by_cases h : i < j
           · exact HA.out i h
           · exact fun h'=>absurd h' (by omega)
          clear hj HA x1
          have x2:=P2.cell
          go_wp2
          clear x2
          go_loopw [10,57] (fun u i wr=>∃ (j : Nat) (last : Int),j ≤ gs.length ∧ u = .int .i64 last ∧ i = .int .i64 j ∧ Below w1.heap.size w1 wr ∧ Hid (LastIs gs j last ∧ ∀ i,i < j → GoOk ⟨id,m,c,r,l,h⟩ ys gs i)) (fun _ i _=>gs.length - (intOf i).toNat)
          case atStart=>exact ⟨0,0,by omega,rfl,rfl,b2,LastIs.none gs,fun i h=>absurd h (Nat.not_lt_zero _)⟩
          case round=>
           obtain ⟨j,last,hj,rfl,rfl,b3,HA⟩:=hrel
           clear b2 P2
           have P2:=P1.next b3
           have C2:=C1.next b3
           have t3:=Ext.trans t1 b3
           by_cases hlt : j < gs.length
           · obtain ⟨b,off,Ab,cg,Am,cm,rfl,q0,q1,q2,q3,q4,q5,i0,i1,i2,rb,rm⟩:=go_at (HG1.out.below b3) hlt
             have HNO : Hid (nuOf gs[j] ≤ last → ¬ GoOk ⟨id,m,c,r,l,h⟩ ys gs j):=fun h=>HA.out.1.no hlt h
             have HYES : Hid (last < nuOf gs[j] → askCode ⟨id,m,c,r,l,h⟩ ((kiOf gs[j]).toNat : Int) (atOf gs[j]) (manyOf gs[j]) (datOf gs[j]).length = 0 → MarksOk ((kiOf gs[j]).toNat : Int) (mksOf gs[j]) ys → GoOk ⟨id,m,c,r,l,h⟩ ys gs j ∧ LastIs gs (j + 1) (nuOf gs[j])):=fun h1 h2 h3=>⟨HA.out.1.yes hlt h1 h2 h3,HA.out.1.next h1 (fun _=>rfl)⟩
             have HGK : Hid (GoOk ⟨id,m,c,r,l,h⟩ ys gs j → OneOk ⟨id,m,c,r,l,h⟩ ys gs[j]):=fun h=>(h hlt).1
             generalize gs[j] = g at *
             have HWJ:=next_wrap HGM.out hlt
             have HLJ:=Lib.hid hlt
             have bA:=Ext.alloc (Below.refl wr.heap.size wr) (.cells #[.int .i64 (nuOf g),.int .u8 ((kiOf g).toNat : Int),.int .i64 (atOf g),.int .i64 (manyOf g),.slice Ab (datOf g).length cg,.slice Am (mksOf g).length cm] 64)
             have b4:=Ext.trans b3 bA
             have t4:=Ext.trans t3 bA
             have C3:=BoxOf.alloc C2 (.cells #[.int .i64 (nuOf g),.int .u8 ((kiOf g).toNat : Int),.int .i64 (atOf g),.int .i64 (manyOf g),.slice Ab (datOf g).length cg,.slice Am (mksOf g).length cm] 64)
             have P3:=BoxOf.alloc P2 (.cells #[.int .i64 (nuOf g),.int .u8 ((kiOf g).toNat : Int),.int .i64 (atOf g),.int .i64 (manyOf g),.slice Ab (datOf g).length cg,.slice Am (mksOf g).length cm] 64)
             have GN:=BoxOf.new wr #[.int .i64 (nuOf g),.int .u8 ((kiOf g).toNat : Int),.int .i64 (atOf g),.int .i64 (manyOf g),.slice Ab (datOf g).length cg,.slice Am (mksOf g).length cm] 64
             have HY2:=Lib.hid (HY1.out.below b4)
             have HRM2:=Lib.hid (rm.below bA)
             clear i0 i1 i2 rb rm bA
             go_upto_region 15 with fail
             obtain ⟨gn,hgn⟩ : ∃ z : Nat,z = wr.heap.size:=⟨_,rfl⟩
             rw [← hgn] at GN ⊢
             generalize wr.alloc (.cells #[.int .i64 (nuOf g),.int .u8 ((kiOf g).toNat : Int),.int .i64 (atOf g),.int .i64 (manyOf g),.slice Ab (datOf g).length cg,.slice Am (mksOf g).length cm] 64) = Wg at *
             have x3:=C3.cell
             have y3:=P3.cell
             have z3:=GN.cell
             clear q0 q1 q2 q3 q4 q5 hgn C2 P2 b3 t3
             rcases Bool.eq_false_or_eq_true (decide (nuOf g ≤ last)) with e1 | e1
             · go_wp2
               go_ret
               exact ⟨OkBad.bad fun h=>HNO.out (of_decide_eq_true e1) (h.goes j),t4⟩
             · rcases Bool.eq_false_or_eq_true (askCode ⟨id,m,c,r,l,h⟩ ((kiOf g).toNat : Int) (atOf g) (manyOf g) (datOf g).length != 0) with e4 | e4
               · go_wp2_with fail
                 refine (HC.out _ _ _ _ _ _ _).mono ?_
                 rintro e w5 ⟨rfl,b5⟩
                 have t5:=Ext.trans t4 b5
                 clear x3 y3 z3
                 go_wp2
                 go_ret
                 exact ⟨OkBad.bad fun h=>by have h2:=(HGK.out (h.goes j)).2.1;rw [h2] at e4;simp at e4,t5⟩
               · go_wp2_with fail
                 refine (HC.out _ _ _ _ _ _ _).mono ?_
                 rintro e w5 ⟨rfl,b5⟩
                 have t5:=Ext.trans t4 b5
                 have b6:=Ext.trans b4 b5
                 have y5:=(P3.next b5).cell
                 have G5:=GN.next b5
                 have z5:=G5.cell
                 have HMK:=Lib.hid (smarks_any S S ys A ca (nuOf g) ((kiOf g).toNat : Int) (atOf g) (manyOf g) Ab (datOf g).length cg (mksOf g) Am cm w5 (HY2.out.below b5) (HRM2.out.below b5))
                 clear x3 y3 z3
                 go_wp2_with fail
                 refine (HMK.out).mono ?_
                 rintro e w7 ⟨⟨bm,rfl,hbm⟩,b7⟩
                 have t7:=Ext.trans t5 b7
                 have b8:=Ext.trans b6 b7
                 have z7:=(G5.next b7).cell
                 have HBM:=Lib.hid hbm
                 clear hbm y5 z5
                 cases bm with
                 | false=>
                   go_wp2
                   go_ret
                   exact ⟨OkBad.bad fun h=>by have h2:=HBM.out.2 (HGK.out (h.goes j)).2.2;exact absurd h2 (by decide),t7⟩
                 | true=>
                   have HA' : Hid (LastIs gs (j + 1) (nuOf g) ∧ ∀ i,i < j + 1 → GoOk ⟨id,m,c,r,l,h⟩ ys gs i):=by
                     obtain ⟨h1,h2⟩:=HYES.out (by have:=of_decide_eq_false e1;omega) (by simpa using e4) (HBM.out.1 (by first | rfl | trivial))
                     refine ⟨h2,fun i hi=>?_⟩
                     by_cases h : i = j
                     · subst h;exact h1
                     · exact HA.out.2 i (by omega)
                   go_wp2
                   go_roundw
                   case rel=>exact ⟨j + 1,_,HLJ.out,rfl,by first | exact round_same HWJ | go_num,b8,HA'⟩
                   case measure=>first | exact round_less HWJ HLJ.out | (have h:=HLJ.out;simp [intOf];omega)
           · go_wp2
             go_ret
             exact ⟨OkBad.ok ⟨HX.out,HL.out.trans HN.out,HF.out,HV.out,fun i=>by
              by_cases h : i < j
              · exact HA.out.2 i h
              · exact fun h'=>absurd h' (by omega)⟩,t3⟩
 · have HB:=Lib.hid (blocks_bad x hx)
   have HX : Hid (¬ PlainOk x ys gs):=fun h=>hx h.cfg
   clear hx
   obtain ⟨id,m,c,r,l,h⟩:=x
   unfold Cfg.val at *
   dsimp only at *
   have C0:=BoxOf.alloc (BoxOf.new w #[.int .u32 (id : Int),.int .i64 m,.int .i64 c,.int .i64 r,.int .i64 l,.int .i64 h] 24) (.cells #[.slice A ys.length ca,.slice B gs.length cb] 28)
   have t0:=Ext.alloc (Ext.alloc (Below.refl w.heap.size w) (.cells #[.int .u32 (id : Int),.int .i64 m,.int .i64 c,.int .i64 r,.int .i64 l,.int .i64 h] 24)) (.cells #[.slice A ys.length ca,.slice B gs.length cb] 28)
   clear hy hg
   go_enter Try.func18,Try.ntmps18
   go_upto_region 1 with fail
   generalize (w.alloc (.cells #[.int .u32 (id : Int),.int .i64 m,.int .i64 c,.int .i64 r,.int .i64 l,.int .i64 h] 24)).alloc (.cells #[.slice A ys.length ca,.slice B gs.length cb] 28) = W at *
   have x0:=C0.cell
   go_wp2_with fail
   refine (HB.out _).mono ?_
   rintro e w1 ⟨rfl,b1⟩
   have t1:=Ext.trans t0 b1
   clear x0 C0
   go_wp2
   go_ret
   exact ⟨OkBad.bad HX.out,t1⟩
end Go.Proofs.Ytclbihcggjjgaaa
namespace Go.Proofs.Ytclbihcggjjgaaa
open Go Go.RowKit
set_option linter.unusedSimpArgs false
set_option linter.unusedVariables false
theorem pad_whole {l : List UInt8} (h : l.length = 128) : pad l = l:=by
 unfold pad
 simp [h]
def datB (k : Int) (bs : List UInt8) (i : Nat) : List UInt8:=if kBytes k then part128 bs i else []
theorem pad_datB {k : Int} {bs : List UInt8} {i : Nat} (h : kBytes k = true → i * 128 + 128 ≤ bs.length) : pad (datB k bs i) = blk k bs i ∧ (datB k bs i).length ≤ 128:=by
 unfold datB blk
 cases hk : kBytes k with
 | true=>simp only [if_true];exact ⟨pad_whole (part128_len (h hk)),by rw [part128_len (h hk)];exact Nat.le_refl _⟩
 | false=>exact ⟨rfl,by simp⟩
set_option maxRecDepth 100000 in
set_option maxHeartbeats 1000000 in
theorem rdata_any (S : Nat → Prop) (k a y : Int) (bs : List UInt8) (A : Option Addr) (c : Nat) (n : Int) (i : Nat) (hi : (i : Int) = n - a) (w : World) (h : RdIn w S (.sl .byte) bs [.slice A bs.length c]) (hb : kBytes k = true → i * 128 + 128 ≤ bs.length) (hi2 : i < 1000) :
 Calls Try.prog 73 #[.agg #[.int .u8 k,.int .i64 a,.int .i64 y,.slice (A) bs.length c],.int .i64 n] w fun e w'=>(∃ D q,e = .returned (.slice D (datB k bs i).length q) ∧ RdIn w' (NewB w.heap.size w') (.sl .byte) (datB k bs i) [.slice D (datB k bs i).length q]) ∧ Below w.heap.size w w':=by
 have HBY:=Lib.hid (rbytes_any k)
 have hw0 : wrap64 (n - a) = (i : Int):=by rw [← hi];exact IntWalk.wrap64_in _ (by omega)
 have t0:=Ext.alloc (Below.refl w.heap.size w) (.cells #[.int .u8 k,.int .i64 a,.int .i64 y,.slice (A) bs.length c] 58)
 have P0:=BoxOf.new w #[.int .u8 k,.int .i64 a,.int .i64 y,.slice (A) bs.length c] 58
 cases hk : kBytes k with
 | false=>
   rw [hk] at HBY
   have hd : datB k bs i = []:=by unfold datB;rw [hk];rfl
   have HD:=Lib.hid hd
   clear h hb hd hk
   go_enter Try.func73,Try.ntmps73
   go_upto_region 1 with fail
   generalize w.alloc (.cells #[.int .u8 k,.int .i64 a,.int .i64 y,.slice (A) bs.length c] 58) = W at *
   have x0:=P0.cell
   go_wp2_with fail
   refine (HBY.out _).mono ?_
   rintro e w1 ⟨rfl,rfl⟩
   go_wp2
   go_ret
   rw [HD.out]
   exact ⟨⟨none,0,rfl,rdin_nilb (by unfold maxLen;omega) _⟩,t0⟩
 | true=>
   rw [hk] at HBY
   have hbl:=hb hk
   obtain ⟨b,off,hA⟩ : ∃ b off,A = some ⟨b,off,none⟩:=by
    rcases h.bytes_bs.2 with h0 | ⟨b,off,e,_⟩
    · have : bs = []:=by simpa using h0
      rw [this] at hbl
      simp at hbl
    · exact ⟨b,off,e⟩
   subst hA
   have hcl : bs.length ≤ c:=by obtain ⟨_,c',e,hn,_⟩:=rdin_sl.1 h;injection e with e _;injection e with _ _ e3;rw [e3];exact hn
   have hd : datB k bs i = part128 bs i:=by unfold datB;rw [hk];rfl
   have HD:=Lib.hid hd
   have hl:=part128_len hbl
   have hp:=(h.part hbl).below t0
   rw [hl] at hp
   generalize part128 bs i = ds at *
   have hw1 : wrap64 ((i : Int) * 128) = ((i * 128 : Nat) : Int):=by rw [IntWalk.wrap64_in _ (by omega)];omega
   have hw3 : wrap64 (((i * 128 : Nat) : Int) + 128) = ((i * 128 + 128 : Nat) : Int):=by rw [IntWalk.wrap64_in _ (by omega)];omega
   have hw4 : wrap64 ((i : Int) * 128 + 128) = ((i * 128 + 128 : Nat) : Int):=by rw [IntWalk.wrap64_in _ (by omega)];omega
   obtain ⟨i0,hi0,hz0,hz1,hz2⟩:=minfo_u8
   have hp2 : RdIn (w.alloc (.cells #[.int .u8 k,.int .i64 a,.int .i64 y,.slice (some ⟨b,off,none⟩) bs.length c] 58)) S (.sl .byte) ds [.slice (some ⟨b,off + i * 128,none⟩) (i * 128 + 128 - i * 128) (c - i * 128)]:=by rw [show i * 128 + 128 - i * 128 = 128 by omega];exact hp
   have HP:=Lib.hid hp2
   clear hp2
   have HL:=Lib.hid hl
   clear h hb hk hd hi hp hl
   go_enter Try.func73,Try.ntmps73
   go_upto_region 1 with fail
   generalize w.alloc (.cells #[.int .u8 k,.int .i64 a,.int .i64 y,.slice (some ⟨b,off,none⟩) bs.length c] 58) = W at *
   have x0:=P0.cell
   go_wp2_with fail
   refine (HBY.out _).mono ?_
   rintro e w1 ⟨rfl,rfl⟩
   have hs1 : i * 128 ≤ i * 128 + 128:=by omega
   have hs2 : i * 128 + 128 ≤ c:=by omega
   have HBL:=Lib.hid (And.intro hbl (And.intro hi2 hcl))
   clear hbl hi2 hcl
   go_wp2_with (at_builtin;(refine wpList_copyL rfl (.const (.slice none 0 0)) (.tmp 21) 29 rfl 5 i0 _ .byte rfl Try.underlying29 hi0 hz0 hz1 hz2 rfl rfl S ds (some ⟨b,off + i * 128,none⟩) (i * 128 + 128 - i * 128) (c - i * 128) rfl HP.out ?_);intro v1 w1 r1 b1;obtain ⟨A',c',rfl⟩:=bytesV r1)
   go_ret
   rw [HD.out]
   exact ⟨⟨A',c',rfl,RdIn.mono (S':=NewB w.heap.size w1) (fun b hb=>⟨Nat.le_trans t0.size hb.1,hb.2⟩) r1⟩,Ext.trans t0 b1⟩
end Go.Proofs.Ytclbihcggjjgaaa
namespace Go.Proofs.Ytclbihcggjjgaaa
open Go Go.RowKit
set_option linter.unusedSimpArgs false
set_option linter.unusedVariables false
theorem PlainOk.short {x : Cfg} {ys : List (List (List UInt8))} {gs : List GoTy.T} (h : PlainOk x ys gs) : ys.length ≤ 1000:=by
 have h1:=Cfg.crm h.cfg
 have h2:=h.len
 omega
def MayRel (x : Cfg) (ys : List (List (List UInt8))) (gs : List GoTy.T) (n : Int) (bs : List UInt8) (b : Bool) (v : Int) : Prop:=
 (¬ PlainOk x ys gs ∧ b = false ∧ v = 8) ∨ (PlainOk x ys gs ∧ ¬ (0 ≤ n ∧ n < (ys.length : Int)) ∧ b = false ∧ v = 2) ∨
 (PlainOk x ys gs ∧ (0 ≤ n ∧ n < (ys.length : Int)) ∧ ¬ bs.length = 128 ∧ b = false ∧ v = 3) ∨ (PlainOk x ys gs ∧ (0 ≤ n ∧ n < (ys.length : Int)) ∧ bs.length = 128 ∧ (b = true ↔ LeftP ys gs n.toNat bs) ∧ v = 0)
theorem MayRel.one {x : Cfg} {ys : List (List (List UInt8))} {gs : List GoTy.T} {n : Int} {bs : List UInt8} {b b' : Bool} {v v' : Int} (h : MayRel x ys gs n bs b v) (h' : MayRel x ys gs n bs b' v') : b = b' ∧ v = v':=by
 rcases h with ⟨h1,rfl,rfl⟩ | ⟨h1,h2,rfl,rfl⟩ | ⟨h1,h2,h3,rfl,rfl⟩ | ⟨h1,h2,h3,h4,rfl⟩ <;> rcases h' with ⟨k1,rfl,rfl⟩ | ⟨k1,k2,rfl,rfl⟩ | ⟨k1,k2,k3,rfl,rfl⟩ | ⟨k1,k2,k3,k4,rfl⟩ <;> first | exact ⟨rfl,rfl⟩ | exact absurd h1 k1 | exact absurd k1 h1 | exact absurd h2 k2 | exact absurd k2 h2 | exact absurd h3 k3 | exact absurd k3 h3 | exact ⟨Bool.eq_iff_iff.2 (h4.trans k4.symm),rfl⟩
end Go.Proofs.Ytclbihcggjjgaaa
namespace Go.Proofs.Ytclbihcggjjgaaa
open Go Go.RowKit
set_option linter.unusedSimpArgs false
set_option linter.unusedVariables false
def ones (bl : List (List UInt8)) : List (List (List UInt8)):=bl.map fun b=>[b]
def CrashRel (x : Cfg) (ys : List (List (List UInt8))) (gs : List GoTy.T) (bl : List (List UInt8)) (v : Int) : Prop:=
 (¬ PlainOk x ys gs ∧ v = 8) ∨ (PlainOk x ys gs ∧ ¬ bl.length = ys.length ∧ v = 2) ∨ (PlainOk x ys gs ∧ bl.length = ys.length ∧ (∃ i,∃ h : i < bl.length,¬ (bl[i]).length = 128) ∧ v = 3) ∨
 (PlainOk x ys gs ∧ bl.length = ys.length ∧ (∀ i (h : i < bl.length),(bl[i]).length = 128) ∧ (∃ i,∃ h : i < bl.length,¬ LeftP ys gs i bl[i]) ∧ v = 8) ∨
 (PlainOk x ys gs ∧ bl.length = ys.length ∧ (∀ i (h : i < bl.length),(bl[i]).length = 128) ∧ (∀ i (h : i < bl.length),LeftP ys gs i bl[i]) ∧ v = 0)
theorem CrashRel.one {x : Cfg} {ys : List (List (List UInt8))} {gs : List GoTy.T} {bl : List (List UInt8)} {v v' : Int} (h : CrashRel x ys gs bl v) (h' : CrashRel x ys gs bl v') : v = v':=by
 rcases h with ⟨h1,rfl⟩ | ⟨h1,h2,rfl⟩ | ⟨h1,h2,⟨i,hi,h3⟩,rfl⟩ | ⟨h1,h2,h3,⟨i,hi,h4⟩,rfl⟩ | ⟨h1,h2,h3,h4,rfl⟩ <;> rcases h' with ⟨k1,rfl⟩ | ⟨k1,k2,rfl⟩ | ⟨k1,k2,⟨j,hj,k3⟩,rfl⟩ | ⟨k1,k2,k3,⟨j,hj,k4⟩,rfl⟩ | ⟨k1,k2,k3,k4,rfl⟩ <;>
  first | rfl | exact absurd h1 k1 | exact absurd k1 h1 | exact absurd h2 k2 | exact absurd k2 h2 | exact absurd (k3 i hi) h3 | exact absurd (h3 j hj) k3 | exact absurd (k4 i hi) h4 | exact absurd (h4 j hj) k4
def crashVal (v : Int) (bl : List (List UInt8)) : List (List (List UInt8)):=if v = 0 then ones bl else []
def CrashIs (base : Nat) (x : Cfg) (ys : List (List (List UInt8))) (gs : List GoTy.T) (bl : List (List UInt8)) (e : Ending) (w : World) : Prop:=
 ∃ (v : Int) (A' : Option Addr) (c' : Nat),e = .returned (.tuple #[.agg #[.slice A' (crashVal v bl).length c',.slice none 0 0],.int .i64 v]) ∧ CrashRel x ys gs bl v ∧ RdIn w (NewB base w) (.sl (.sl (.sl .byte))) (crashVal v bl) [.slice A' (crashVal v bl).length c']
theorem rdin_nil3 (w : World) (S : Nat → Prop) : RdIn w S (.sl (.sl (.sl .byte))) [] [.slice none 0 0]:=rdin_sl.2 ⟨none,0,rfl,by simp,by simp [maxLen],by simp,.inl rfl⟩
theorem CrashIs.err {base : Nat} {x : Cfg} {ys : List (List (List UInt8))} {gs : List GoTy.T} {bl : List (List UInt8)} {w : World} {v : Int} (h : CrashRel x ys gs bl v) (hv : ¬ v = 0) : CrashIs base x ys gs bl (.returned (.tuple #[.agg #[.slice none 0 0,.slice none 0 0],.int .i64 v])) w:=by
 have e : crashVal v bl = []:=if_neg hv
 refine ⟨v,none,0,?_,h,?_⟩
 · rw [e];rfl
 · rw [e];exact rdin_nil3 _ _
theorem CrashIs.ok {base : Nat} {x : Cfg} {ys : List (List (List UInt8))} {gs : List GoTy.T} {bl : List (List UInt8)} {w : World} {A' : Option Addr} {c' n : Nat} (h : CrashRel x ys gs bl 0) (hn : n = (ones bl).length) (hr : RdIn w (NewB base w) (.sl (.sl (.sl .byte))) (ones bl) [.slice A' (ones bl).length c']) : CrashIs base x ys gs bl (.returned (.tuple #[.agg #[.slice A' n c',.slice none 0 0],.int .i64 0])) w:=by
 have e : crashVal 0 bl = ones bl:=if_pos rfl
 exact ⟨0,A',c',by rw [e,hn],h,by rw [e];exact hr⟩
theorem fresh_new {w : World} {base : Nat} {v : Value} (hv : ∀ r,v.ownBlock = some r → r < w.heap.size) (hb : base ≤ w.heap.size) (cs : Array Value) (t : TypeId) : Fresh (w.alloc (.cells cs t)) base v w.heap.size:=
 ⟨hb,by simp,fun e=>by have:=hv _ e;omega,cs,t,heap_alloc_new _ _⟩
theorem one_list {w : World} {base : Nat} {v u : Value} {bs : List UInt8} (hv : ∀ r,v.ownBlock = some r → r < w.heap.size) (hb : base ≤ w.heap.size) (h : RdIn w (Fresh w base v) (.sl .byte) bs [u]) (t : TypeId) :
 RdIn (w.alloc (.cells #[u] t)) (Fresh (w.alloc (.cells #[u] t)) base v) (.sl (.sl .byte)) [bs] [.slice (some ⟨w.heap.size,0,none⟩) 1 1]:=by
 have ba:=Ext.alloc (Below.refl w.heap.size w) (.cells #[u] t)
 refine rdin_sl.2 ⟨_,1,rfl,Nat.le_refl _,by simp [maxLen],(show 1 * 24 ≤ 140737488355328 by decide),.inr ⟨w.heap.size,0,rfl,fresh_new hv hb _ _,fun i hi=>?_⟩⟩
 have hi0 : i = 0:=by have : i < 1:=hi;omega
 subst hi0
 refine ⟨[u],fun j hj=>?_,(h.below ba).mono fun b hb=>Fresh.next hb ba⟩
 have hj0 : j = 0:=by have : j < 1:=hj;omega
 subst hj0
 show (w.alloc (.cells #[u] t)).cell? ⟨w.heap.size,0 + 0 * 1 + 0,none⟩ = _
 rw [World.cell?_alloc_mark]
 rfl
end Go.Proofs.Ytclbihcggjjgaaa
namespace Go.Proofs.Ytclbihcggjjgaaa
open Go Go.RowKit
set_option linter.unusedSimpArgs false
set_option linter.unusedVariables false
def set6 (w : World) (g : Nat) (v0 v1 v2 v3 v4 v5 : Value) : World:=(((((w.setCell ⟨g,0,none⟩ v0).setCell ⟨g,1,none⟩ v1).setCell ⟨g,2,none⟩ v2).setCell ⟨g,3,none⟩ v3).setCell ⟨g,4,none⟩ v4).setCell ⟨g,5,none⟩ v5
theorem set6_self {w : World} {g : Nat} {a b c d e f : Value} {t : TypeId} (h : BoxOf w g #[a,b,c,d,e,f] t) (v0 v1 v2 v3 v4 v5 : Value) : BoxOf (set6 w g v0 v1 v2 v3 v4 v5) g #[v0,v1,v2,v3,v4,v5] t:=
 mbox_self (mbox_self (mbox_self (mbox_self (mbox_self (mbox_self h 0 v0) 1 v1) 2 v2) 3 v3) 4 v4) 5 v5
theorem set6_else {w : World} {g k : Nat} {cs : Array Value} {t : TypeId} (h : BoxOf w g cs t) (hk : g ≠ k) (v0 v1 v2 v3 v4 v5 : Value) : BoxOf (set6 w k v0 v1 v2 v3 v4 v5) g cs t:=
 mbox_else (mbox_else (mbox_else (mbox_else (mbox_else (mbox_else h hk 0 v0) hk 1 v1) hk 2 v2) hk 3 v3) hk 4 v4) hk 5 v5
theorem set6_below {B g : Nat} {W w : World} (h : Below B W w) (hg : B ≤ g) (v0 v1 v2 v3 v4 v5 : Value) : Below B W (set6 w g v0 v1 v2 v3 v4 v5):=
 (((((h.setCell (p:=⟨g,0,none⟩) hg v0).setCell (p:=⟨g,1,none⟩) hg v1).setCell (p:=⟨g,2,none⟩) hg v2).setCell (p:=⟨g,3,none⟩) hg v3).setCell (p:=⟨g,4,none⟩) hg v4).setCell (p:=⟨g,5,none⟩) hg v5
set_option maxRecDepth 100000 in
set_option maxHeartbeats 1000000 in
theorem rsame8_any (k a y : Int) (A : Option Addr) (c : Nat) (bs : List UInt8) (k' a' y' : Int) (A' : Option Addr) (c' : Nat) (bs' : List UInt8) (w : World) (h1 : Bs w A bs.length bs) (h2 : Bs w A' bs'.length bs') :
 Calls Try.prog 36 #[.agg #[.int .u8 k,.int .i64 a,.int .i64 y,.slice A bs.length c],.agg #[.int .u8 k',.int .i64 a',.int .i64 y',.slice A' bs'.length c']] w fun e w'=>YesNo (k = k' ∧ a = a' ∧ y = y' ∧ bs = bs') e ∧ Below w.heap.size w w':=by
 have P0:=BoxOf.alloc (BoxOf.new w #[.int .u8 k,.int .i64 a,.int .i64 y,.slice A bs.length c] 58) (.cells #[.int .u8 k',.int .i64 a',.int .i64 y',.slice A' bs'.length c'] 58)
 have Q0:=BoxOf.new' (w.alloc (.cells #[.int .u8 k,.int .i64 a,.int .i64 y,.slice A bs.length c] 58)) (w.heap.size + 1) #[.int .u8 k',.int .i64 a',.int .i64 y',.slice A' bs'.length c'] 58 (by simp)
 have t0:=Ext.alloc (Ext.alloc (Below.refl w.heap.size w) (.cells #[.int .u8 k,.int .i64 a,.int .i64 y,.slice A bs.length c] 58)) (.cells #[.int .u8 k',.int .i64 a',.int .i64 y',.slice A' bs'.length c'] 58)
 have s1:=run_string_bs (P:=Try.prog) c 29 9 5 Try.underlying29 Try.underlying5 Try.underlying9 (h1.below t0)
 have s2:=run_string_bs (P:=Try.prog) c' 29 9 5 Try.underlying29 Try.underlying5 Try.underlying9 (h2.below t0)
 clear h1 h2
 go_enter Try.func36,Try.ntmps36
 go_upto_region 1 with fail
 generalize (w.alloc (.cells #[.int .u8 k,.int .i64 a,.int .i64 y,.slice A bs.length c] 58)).alloc (.cells #[.int .u8 k',.int .i64 a',.int .i64 y',.slice A' bs'.length c'] 58) = W at *
 have x0:=P0.cell
 have y0:=Q0.cell
 rcases Bool.eq_false_or_eq_true (k == k') with e1 | e1
 · rcases Bool.eq_false_or_eq_true (a == a') with e2 | e2
   · rcases Bool.eq_false_or_eq_true (y == y') with e3 | e3
     · go_wp2
       go_ret
       refine ⟨YesNo.of ?_,t0⟩
       simp only [beq_iff_eq] at e1 e2 e3
       simp [e1,e2,e3]
     · go_wp2
       go_ret
       exact ⟨YesNo.no fun h=>by rw [h.2.2.1] at e3;simp at e3,t0⟩
   · go_wp2
     go_ret
     exact ⟨YesNo.no fun h=>by rw [h.2.1] at e2;simp at e2,t0⟩
 · go_wp2
   go_ret
   exact ⟨YesNo.no fun h=>by rw [h.1] at e1;simp at e1,t0⟩
theorem go_ext {g g' : GoTy.T} (h1 : nuOf g = nuOf g') (h2 : kiOf g = kiOf g') (h3 : atOf g = atOf g') (h4 : manyOf g = manyOf g') (h5 : datOf g = datOf g') (h6 : mksOf g = mksOf g') : g = g':=by
 obtain ⟨n,⟨k,a,y,b,u⟩,ms,u'⟩:=g
 obtain ⟨n',⟨k',a',y',b',v⟩,ms',v'⟩:=g'
 obtain rfl : n = n':=h1
 obtain rfl : k = k':=h2
 obtain rfl : a = a':=h3
 obtain rfl : y = y':=h4
 obtain rfl : b = b':=h5
 obtain rfl : ms = ms':=h6
 rfl
def LikeAt {α : Type} (l l' : List α) (i : Nat) : Prop:=∀ (h : i < l.length) (h' : i < l'.length),l[i] = l'[i]
theorem like_all {α : Type} {l l' : List α} (hl : l.length = l'.length) {j : Nat} (hj : ¬ j < l.length) (h : ∀ i,i < j → LikeAt l l' i) : l = l':=
 List.ext_getElem hl fun i h1 h2=>h i (by omega) h1 h2
set_option maxRecDepth 100000 in
set_option maxHeartbeats 4000000 in
theorem rsame_any (S T : Nat → Prop) (ys : List (List (List UInt8))) (gs : List GoTy.T) (A : Option Addr) (c : Nat) (B : Option Addr) (d : Nat) (zs : List (List (List UInt8))) (hs : List GoTy.T) (E : Option Addr) (f : Nat) (F : Option Addr) (g : Nat) (w : World) (hy : RdIn w S (.sl (.sl (.sl .byte))) ys [.slice A ys.length c]) (hg : RdIn w S (.sl GoTy) gs [.slice B gs.length d]) (hz : RdIn w T (.sl (.sl (.sl .byte))) zs [.slice E zs.length f]) (hh : RdIn w T (.sl GoTy) hs [.slice F hs.length g]) :
 Calls Try.prog 15 #[.agg #[.slice A ys.length c,.slice B gs.length d],.agg #[.slice E zs.length f,.slice F hs.length g]] w fun e w'=>YesNo (ys = zs ∧ gs = hs) e ∧ Below w.heap.size w w':=by
 have P0:=BoxOf.alloc (BoxOf.new w #[.slice A ys.length c,.slice B gs.length d] 28) (.cells #[.slice E zs.length f,.slice F hs.length g] 28)
 have Q0:=BoxOf.new' (w.alloc (.cells #[.slice A ys.length c,.slice B gs.length d] 28)) (w.heap.size + 1) #[.slice E zs.length f,.slice F hs.length g] 28 (by simp)
 have t0:=Ext.alloc (Ext.alloc (Below.refl w.heap.size w) (.cells #[.slice A ys.length c,.slice B gs.length d] 28)) (.cells #[.slice E zs.length f,.slice F hs.length g] 28)
 have HY:=Lib.hid (hy.below t0)
 have HG:=Lib.hid (hg.below t0)
 have HZ:=Lib.hid (hz.below t0)
 have HH:=Lib.hid (hh.below t0)
 have HYM:=Lib.hid (may_max hy)
 have HGM:=Lib.hid (go_max hg)
 clear hy hg hz hh
 go_enter Try.func15,Try.ntmps15
 go_upto_region 1 with fail
 generalize (w.alloc (.cells #[.slice A ys.length c,.slice B gs.length d] 28)).alloc (.cells #[.slice E zs.length f,.slice F hs.length g] 28) = W at *
 have x0:=P0.cell
 have y0:=Q0.cell
 rcases Bool.eq_false_or_eq_true ((ys.length : Int) != (zs.length : Int)) with e1 | e1
 · go_wp2
   go_ret
   exact ⟨YesNo.no fun h=>by rw [h.1] at e1;simp at e1,t0⟩
 · rcases Bool.eq_false_or_eq_true ((gs.length : Int) != (hs.length : Int)) with e2 | e2
   · go_wp2
     go_ret
     exact ⟨YesNo.no fun h=>by rw [h.2] at e2;simp at e2,t0⟩
   · have HLY : Hid (ys.length = zs.length):=by have h9 : (ys.length : Int) = (zs.length : Int):=(by simpa using e1)
                                                show _ = _
                                                omega
     have HLG : Hid (gs.length = hs.length):=by have h9 : (gs.length : Int) = (hs.length : Int):=(by simpa using e2)
                                                show _ = _
                                                omega
     go_wp2
     clear e1 e2
     go_loopw [5] (fun i wr=>∃ (k : Nat),k ≤ ys.length ∧ i = .int .i64 k ∧ Below W.heap.size W wr ∧ Hid (∀ i,i < k → LikeAt ys zs i)) (fun i _=>ys.length - (intOf i).toNat)
     case atStart=>exact ⟨0,by omega,rfl,Below.refl _ _,fun i h=>absurd h (Nat.not_lt_zero _)⟩
     case round=>
      obtain ⟨k,hk,rfl,b1,HA⟩:=hrel
      clear x0 y0
      have P1:=P0.next b1
      have Q1:=Q0.next b1
      have x1:=P1.cell
      have y1:=Q1.cell
      have t1:=Ext.trans t0 b1
      by_cases hlt : k < ys.length
      · have hlt2 : k < zs.length:=by have:=HLY.out;omega
        obtain ⟨b,off,A2,c2,rfl,q2,r2⟩:=may_at (HY.out.below b1) hlt
        obtain ⟨b',off',A3,c3,rfl,q3,r3⟩:=may_at (HZ.out.below b1) hlt2
        have HLK : Hid (LikeAt ys zs k ↔ ys[k] = zs[k]):=⟨fun h=>h hlt hlt2,fun h _ _=>h⟩
        generalize ys[k] = us at *
        generalize zs[k] = vs at *
        have HWK:=next_wrap HYM.out hlt
        have HLT:=Lib.hid hlt
        have HL2:=Lib.hid hlt2
        have HUM:=Lib.hid (val_max r2)
        have HR2:=Lib.hid r2
        have HR3:=Lib.hid r3
        clear r2 r3
        rcases Bool.eq_false_or_eq_true ((us.length : Int) != (vs.length : Int)) with e1 | e1
        · go_wp2
          go_quiet (fail)
          go_wp2
          go_ret
          exact ⟨YesNo.no fun h=>by have h9 : us = vs:=HLK.out.1 (by rw [h.1];intro _ _;rfl);rw [h9] at e1;simp at e1,below_drewN' t1 _⟩
        · have HLU : Hid (us.length = vs.length):=by have h9 : (us.length : Int) = (vs.length : Int):=(by simpa using e1)
                                                     show _ = _
                                                     omega
          go_wp2
          go_quiet (fail)
          have b1d:=below_drewN' b1 nq
          have P1d:=P1.drewN nq
          have Q1d:=Q1.drewN nq
          have x1d:=P1d.cell
          have y1d:=Q1d.cell
          have q2d : (wr.drewN nq).cell? ⟨b,off + k,none⟩ = _:=q2
          have q3d : (wr.drewN nq).cell? ⟨b',off' + k,none⟩ = _:=q3
          have HR2d:=Lib.hid (HR2.out.below (below_drewN' (Below.refl wr.heap.size wr) nq))
          have HR3d:=Lib.hid (HR3.out.below (below_drewN' (Below.refl wr.heap.size wr) nq))
          generalize wr.drewN nq = wd at *
          clear b1 P1 Q1 x1 y1 q2 q3 HR2 HR3 t1
          obtain ⟨w0,hw0⟩ : ∃ z : World,z = wd:=⟨_,rfl⟩
          have q2r:=q2d
          have q3r:=q3d
          rw [← hw0] at b1d q2d q3d HR2d HR3d P1d Q1d
          have bw0 : Below w0.heap.size w0 wd:=by rw [hw0];exact Below.refl _ _
          go_wp2
          clear e1
          go_loopw [6] (fun i wq=>∃ (j : Nat),j ≤ us.length ∧ i = .int .i64 j ∧ Below w0.heap.size w0 wq ∧ Hid (∀ i,i < j → LikeAt us vs i)) (fun i _=>us.length - (intOf i).toNat)
          case atStart=>exact ⟨0,by omega,rfl,bw0,fun i h=>absurd h (Nat.not_lt_zero _)⟩
          case round=>
           obtain ⟨j,hj,rfl,b2,HB⟩:=hrel
           clear x1d y1d q2r q3r bw0 hw0
           have P2:=P1d.next b2
           have Q2:=Q1d.next b2
           have x2:=P2.cell
           have y2:=Q2.cell
           have q4:=(b2.cell (p:=⟨b,off + k,none⟩) (block_lt_of_cell q2d)).trans q2d
           have q5:=(b2.cell (p:=⟨b',off' + k,none⟩) (block_lt_of_cell q3d)).trans q3d
           have b3:=Ext.trans b1d b2
           have t3:=Ext.trans t0 b3
           by_cases hltj : j < us.length
           · have hltj2 : j < vs.length:=by have:=HLU.out;omega
             obtain ⟨b5,off5,A5,c5,rfl,q6,r5⟩:=val_at (HR2d.out.below b2) hltj
             obtain ⟨b6,off6,A6,c6,rfl,q7,r6⟩:=val_at (HR3d.out.below b2) hltj2
             have HLJ2 : Hid (LikeAt us vs j ↔ us[j] = vs[j]):=⟨fun h=>h hltj hltj2,fun h _ _=>h⟩
             generalize us[j] = bs at *
             generalize vs[j] = ds at *
             have HWJ:=next_wrap HUM.out hltj
             have HLJ:=Lib.hid hltj
             have HB5:=Lib.hid r5
             have HB6:=Lib.hid r6
             have HLJJ:=Lib.hid hltj2
             clear r5 r6 hj
             go_upto_region 11 with fail
             clear x2 y2
             rcases Bool.eq_false_or_eq_true (bs == ds) with e3 | e3
             · have HB' : Hid (∀ i,i < j + 1 → LikeAt us vs i):=by
                    intro i hi
                    by_cases h : i = j
                    · subst h
                      exact HLJ2.out.2 (by simpa using e3)
                    · exact HB.out i (by omega)
               have HS : Hid (∀ w',Below wr.heap.size wr w' → (Below wr.heap.size wr w' ∧ (∀ o,w'.cell? ⟨w.heap.size,o,none⟩ = #[.slice (some ⟨b,off,none⟩) ys.length c,.slice B gs.length d].toList[o]?) ∧ (∀ o,w'.cell? ⟨w.heap.size + 1,o,none⟩ = #[.slice (some ⟨b',off',none⟩) zs.length f,.slice F hs.length g].toList[o]?) ∧ w'.cell? ⟨b,off + k,none⟩ = some (.slice (some ⟨b5,off5,none⟩) us.length c2) ∧ w'.cell? ⟨b',off' + k,none⟩ = some (.slice (some ⟨b6,off6,none⟩) vs.length c3) ∧ w'.cell? ⟨b5,off5 + j,none⟩ = some (.slice A5 bs.length c5) ∧ w'.cell? ⟨b6,off6 + j,none⟩ = some (.slice A6 ds.length c6) ∧ Bs w' A5 bs.length bs ∧ Bs w' A6 ds.length ds)):=fun w' b=>⟨b,(P2.next b).cell,(Q2.next b).cell,(b.cell (block_lt_of_cell q4)).trans q4,(b.cell (block_lt_of_cell q5)).trans q5,(b.cell (block_lt_of_cell q6)).trans q6,(b.cell (block_lt_of_cell q7)).trans q7,HB5.out.bytes_bs.below b,HB6.out.bytes_bs.below b⟩
               refine wp_region_held_drew (S:=fun w'=>Below wr.heap.size wr w' ∧ (∀ o,w'.cell? ⟨w.heap.size,o,none⟩ = #[.slice (some ⟨b,off,none⟩) ys.length c,.slice B gs.length d].toList[o]?) ∧ (∀ o,w'.cell? ⟨w.heap.size + 1,o,none⟩ = #[.slice (some ⟨b',off',none⟩) zs.length f,.slice F hs.length g].toList[o]?) ∧ w'.cell? ⟨b,off + k,none⟩ = some (.slice (some ⟨b5,off5,none⟩) us.length c2) ∧ w'.cell? ⟨b',off' + k,none⟩ = some (.slice (some ⟨b6,off6,none⟩) vs.length c3) ∧ w'.cell? ⟨b5,off5 + j,none⟩ = some (.slice A5 bs.length c5) ∧ w'.cell? ⟨b6,off6 + j,none⟩ = some (.slice A6 ds.length c6) ∧ Bs w' A5 bs.length bs ∧ Bs w' A6 ds.length ds) (by kernel_rfl) (HS.out _ (Ext.drew (Below.refl _ _))) (fun hS=>?_)
               refine wpAnyH_take (i:=0) (v:=?_) rfl (by kernel_rfl) (by kernel_rfl) (by kernel_rfl) (fun _ _ _ h=>h) (Or.inl ⟨by rfl,?_⟩) hS ?_
               rotate_left
               · (intro w hSw;(try dsimp only at hSw);go_simp;(try with_reducible rfl))
               rotate_left
               simp only [Act.put,zq0,zq1,zq2,zq3,zq4,zq5]
               refine wpAnyH_take (i:=1) (v:=?_) rfl (by kernel_rfl) (by kernel_rfl) (by kernel_rfl) (fun _ _ _ h=>h) (Or.inl ⟨by rfl,?_⟩) hS ?_
               rotate_left
               · (intro w hSw;(try dsimp only at hSw);go_simp;(try with_reducible rfl))
               rotate_left
               simp only [Act.put,zq0,zq1,zq2,zq3,zq4,zq5]
               refine wpAnyH_take (i:=2) (v:=?_) rfl (by kernel_rfl) (by kernel_rfl) (by kernel_rfl) (fun _ _ _ h=>h) (Or.inl ⟨by rfl,?_⟩) hS ?_
               rotate_left
               · (intro w hSw;(try dsimp only at hSw);go_simp;(try with_reducible rfl))
               rotate_left
               simp only [Act.put,zq0,zq1,zq2,zq3,zq4,zq5]
               refine wpAnyH_take (i:=3) (v:=?_) rfl (by kernel_rfl) (by kernel_rfl) (by kernel_rfl) (fun _ _ _ h=>h) (Or.inl ⟨by rfl,?_⟩) hS ?_
               rotate_left
               · (intro w hSw;(try dsimp only at hSw);go_simp;(try with_reducible rfl))
               rotate_left
               simp only [Act.put,zq0,zq1,zq2,zq3,zq4,zq5]
               refine wpAnyH_take (i:=4) (v:=?_) rfl (by kernel_rfl) (by kernel_rfl) (by kernel_rfl) (fun _ _ _ h=>h) (Or.inl ⟨by rfl,?_⟩) hS ?_
               rotate_left
               · (intro w hSw;(try dsimp only at hSw);go_simp;(try with_reducible rfl))
               rotate_left
               simp only [Act.put,zq0,zq1,zq2,zq3,zq4,zq5]
               refine wpAnyH_take (i:=5) (v:=?_) rfl (by kernel_rfl) (by kernel_rfl) (by kernel_rfl) (fun _ _ _ h=>h) (Or.inl ⟨by rfl,?_⟩) hS ?_
               rotate_left
               · (intro w hSw;(try dsimp only at hSw);go_simp;(try with_reducible rfl))
               rotate_left
               simp only [Act.put,zq0,zq1,zq2,zq3,zq4,zq5]
               refine wpAnyH_take (i:=6) (v:=?_) rfl (by kernel_rfl) (by kernel_rfl) (by kernel_rfl) (fun _ _ _ h=>h) (Or.inl ⟨by rfl,?_⟩) hS ?_
               rotate_left
               · (intro w hSw;(try dsimp only at hSw);go_simp;(try with_reducible rfl))
               rotate_left
               simp only [Act.put,zq0,zq1,zq2,zq3,zq4,zq5]
               refine wpAnyH_take (i:=7) (v:=?_) rfl (by kernel_rfl) (by kernel_rfl) (by kernel_rfl) (fun _ _ _ h=>h) (Or.inl ⟨by rfl,?_⟩) hS ?_
               rotate_left
               · (intro w hSw;(try dsimp only at hSw);go_simp;(try with_reducible rfl))
               rotate_left
               simp only [Act.put,zq0,zq1,zq2,zq3,zq4,zq5]
               refine wpAnyH_take (i:=8) (v:=?_) rfl (by kernel_rfl) (by kernel_rfl) (by kernel_rfl) (fun _ _ _ h=>h) (Or.inl ⟨by rfl,?_⟩) hS ?_
               rotate_left
               · (intro w hSw;have sq:=run_string_bs (P:=Try.prog) c5 29 9 5 Try.underlying29 Try.underlying5 Try.underlying9 hSw.2.2.2.2.2.2.2.1;(try dsimp only at hSw);go_simp;(try with_reducible rfl))
               rotate_left
               try simp only [Act.put,zq0,zq1,zq2,zq3,zq4,zq5]
               refine wpAnyH_take (i:=9) (v:=?_) rfl (by kernel_rfl) (by kernel_rfl) (by kernel_rfl) (fun _ _ _ h=>h) (Or.inl ⟨by rfl,?_⟩) hS ?_
               rotate_left
               · (intro w hSw;(try dsimp only at hSw);go_simp;(try with_reducible rfl))
               rotate_left
               simp only [Act.put,zq0,zq1,zq2,zq3,zq4,zq5]
               refine wpAnyH_take (i:=10) (v:=?_) rfl (by kernel_rfl) (by kernel_rfl) (by kernel_rfl) (fun _ _ _ h=>h) (Or.inl ⟨by rfl,?_⟩) hS ?_
               rotate_left
               · (intro w hSw;(try dsimp only at hSw);go_simp;(try with_reducible rfl))
               rotate_left
               simp only [Act.put,zq0,zq1,zq2,zq3,zq4,zq5]
               refine wpAnyH_take (i:=11) (v:=?_) rfl (by kernel_rfl) (by kernel_rfl) (by kernel_rfl) (fun _ _ _ h=>h) (Or.inl ⟨by rfl,?_⟩) hS ?_
               rotate_left
               · (intro w hSw;(try dsimp only at hSw);go_simp;(try with_reducible rfl))
               rotate_left
               simp only [Act.put,zq0,zq1,zq2,zq3,zq4,zq5]
               refine wpAnyH_take (i:=12) (v:=?_) rfl (by kernel_rfl) (by kernel_rfl) (by kernel_rfl) (fun _ _ _ h=>h) (Or.inl ⟨by rfl,?_⟩) hS ?_
               rotate_left
               · (intro w hSw;(try dsimp only at hSw);go_simp;(try with_reducible rfl))
               rotate_left
               simp only [Act.put,zq0,zq1,zq2,zq3,zq4,zq5]
               refine wpAnyH_take (i:=13) (v:=?_) rfl (by kernel_rfl) (by kernel_rfl) (by kernel_rfl) (fun _ _ _ h=>h) (Or.inl ⟨by rfl,?_⟩) hS ?_
               rotate_left
               · (intro w hSw;(try dsimp only at hSw);go_simp;(try with_reducible rfl))
               rotate_left
               simp only [Act.put,zq0,zq1,zq2,zq3,zq4,zq5]
               refine wpAnyH_take (i:=14) (v:=?_) rfl (by kernel_rfl) (by kernel_rfl) (by kernel_rfl) (fun _ _ _ h=>h) (Or.inl ⟨by rfl,?_⟩) hS ?_
               rotate_left
               · (intro w hSw;(try dsimp only at hSw);go_simp;(try with_reducible rfl))
               rotate_left
               simp only [Act.put,zq0,zq1,zq2,zq3,zq4,zq5]
               refine wpAnyH_take (i:=15) (v:=?_) rfl (by kernel_rfl) (by kernel_rfl) (by kernel_rfl) (fun _ _ _ h=>h) (Or.inl ⟨by rfl,?_⟩) hS ?_
               rotate_left
               · (intro w hSw;(try dsimp only at hSw);go_simp;(try with_reducible rfl))
               rotate_left
               simp only [Act.put,zq0,zq1,zq2,zq3,zq4,zq5]
               refine wpAnyH_take (i:=16) (v:=?_) rfl (by kernel_rfl) (by kernel_rfl) (by kernel_rfl) (fun _ _ _ h=>h) (Or.inl ⟨by rfl,?_⟩) hS ?_
               rotate_left
               · (intro w hSw;(try dsimp only at hSw);go_simp;(try with_reducible rfl))
               rotate_left
               simp only [Act.put,zq0,zq1,zq2,zq3,zq4,zq5]
               refine wpAnyH_take (i:=17) (v:=?_) rfl (by kernel_rfl) (by kernel_rfl) (by kernel_rfl) (fun _ _ _ h=>h) (Or.inl ⟨by rfl,?_⟩) hS ?_
               rotate_left
               · (intro w hSw;have sq:=run_string_bs (P:=Try.prog) c6 29 9 5 Try.underlying29 Try.underlying5 Try.underlying9 hSw.2.2.2.2.2.2.2.2;(try dsimp only at hSw);go_simp;(try with_reducible rfl))
               rotate_left
               try simp only [Act.put,zq0,zq1,zq2,zq3,zq4,zq5]
               refine wpAnyH_take (i:=18) (v:=?_) rfl (by kernel_rfl) (by kernel_rfl) (by kernel_rfl) (fun _ _ _ h=>h) (Or.inl ⟨by rfl,?_⟩) hS ?_
               rotate_left
               · (intro w hSw;(try dsimp only at hSw);go_simp;(try with_reducible rfl))
               rotate_left
               simp only [Act.put,zq0,zq1,zq2,zq3,zq4,zq5]
               refine wpAnyH_done (by kernel_rfl) ?_ _
               have bH:=hS.1
               clear hS HS
               have b9:=Ext.trans b2 bH
               go_wp2
               go_roundw
               case rel=>exact ⟨j + 1,HLJ.out,by first | exact round_same HWJ | go_num,b9,HB'⟩
               case measure=>first | exact round_less HWJ HLJ.out | (have h:=HLJ.out;simp [intOf];omega)
             · have HS : Hid (∀ w',Below wr.heap.size wr w' → (Below wr.heap.size wr w' ∧ (∀ o,w'.cell? ⟨w.heap.size,o,none⟩ = #[.slice (some ⟨b,off,none⟩) ys.length c,.slice B gs.length d].toList[o]?) ∧ (∀ o,w'.cell? ⟨w.heap.size + 1,o,none⟩ = #[.slice (some ⟨b',off',none⟩) zs.length f,.slice F hs.length g].toList[o]?) ∧ w'.cell? ⟨b,off + k,none⟩ = some (.slice (some ⟨b5,off5,none⟩) us.length c2) ∧ w'.cell? ⟨b',off' + k,none⟩ = some (.slice (some ⟨b6,off6,none⟩) vs.length c3) ∧ w'.cell? ⟨b5,off5 + j,none⟩ = some (.slice A5 bs.length c5) ∧ w'.cell? ⟨b6,off6 + j,none⟩ = some (.slice A6 ds.length c6) ∧ Bs w' A5 bs.length bs ∧ Bs w' A6 ds.length ds)):=fun w' b=>⟨b,(P2.next b).cell,(Q2.next b).cell,(b.cell (block_lt_of_cell q4)).trans q4,(b.cell (block_lt_of_cell q5)).trans q5,(b.cell (block_lt_of_cell q6)).trans q6,(b.cell (block_lt_of_cell q7)).trans q7,HB5.out.bytes_bs.below b,HB6.out.bytes_bs.below b⟩
               refine wp_region_held_drew (S:=fun w'=>Below wr.heap.size wr w' ∧ (∀ o,w'.cell? ⟨w.heap.size,o,none⟩ = #[.slice (some ⟨b,off,none⟩) ys.length c,.slice B gs.length d].toList[o]?) ∧ (∀ o,w'.cell? ⟨w.heap.size + 1,o,none⟩ = #[.slice (some ⟨b',off',none⟩) zs.length f,.slice F hs.length g].toList[o]?) ∧ w'.cell? ⟨b,off + k,none⟩ = some (.slice (some ⟨b5,off5,none⟩) us.length c2) ∧ w'.cell? ⟨b',off' + k,none⟩ = some (.slice (some ⟨b6,off6,none⟩) vs.length c3) ∧ w'.cell? ⟨b5,off5 + j,none⟩ = some (.slice A5 bs.length c5) ∧ w'.cell? ⟨b6,off6 + j,none⟩ = some (.slice A6 ds.length c6) ∧ Bs w' A5 bs.length bs ∧ Bs w' A6 ds.length ds) (by kernel_rfl) (HS.out _ (Ext.drew (Below.refl _ _))) (fun hS=>?_)
               refine wpAnyH_take (i:=0) (v:=?_) rfl (by kernel_rfl) (by kernel_rfl) (by kernel_rfl) (fun _ _ _ h=>h) (Or.inl ⟨by rfl,?_⟩) hS ?_
               rotate_left
               · (intro w hSw;(try dsimp only at hSw);go_simp;(try with_reducible rfl))
               rotate_left
               simp only [Act.put,zq0,zq1,zq2,zq3,zq4,zq5]
               refine wpAnyH_take (i:=1) (v:=?_) rfl (by kernel_rfl) (by kernel_rfl) (by kernel_rfl) (fun _ _ _ h=>h) (Or.inl ⟨by rfl,?_⟩) hS ?_
               rotate_left
               · (intro w hSw;(try dsimp only at hSw);go_simp;(try with_reducible rfl))
               rotate_left
               simp only [Act.put,zq0,zq1,zq2,zq3,zq4,zq5]
               refine wpAnyH_take (i:=2) (v:=?_) rfl (by kernel_rfl) (by kernel_rfl) (by kernel_rfl) (fun _ _ _ h=>h) (Or.inl ⟨by rfl,?_⟩) hS ?_
               rotate_left
               · (intro w hSw;(try dsimp only at hSw);go_simp;(try with_reducible rfl))
               rotate_left
               simp only [Act.put,zq0,zq1,zq2,zq3,zq4,zq5]
               refine wpAnyH_take (i:=3) (v:=?_) rfl (by kernel_rfl) (by kernel_rfl) (by kernel_rfl) (fun _ _ _ h=>h) (Or.inl ⟨by rfl,?_⟩) hS ?_
               rotate_left
               · (intro w hSw;(try dsimp only at hSw);go_simp;(try with_reducible rfl))
               rotate_left
               simp only [Act.put,zq0,zq1,zq2,zq3,zq4,zq5]
               refine wpAnyH_take (i:=4) (v:=?_) rfl (by kernel_rfl) (by kernel_rfl) (by kernel_rfl) (fun _ _ _ h=>h) (Or.inl ⟨by rfl,?_⟩) hS ?_
               rotate_left
               · (intro w hSw;(try dsimp only at hSw);go_simp;(try with_reducible rfl))
               rotate_left
               simp only [Act.put,zq0,zq1,zq2,zq3,zq4,zq5]
               refine wpAnyH_take (i:=5) (v:=?_) rfl (by kernel_rfl) (by kernel_rfl) (by kernel_rfl) (fun _ _ _ h=>h) (Or.inl ⟨by rfl,?_⟩) hS ?_
               rotate_left
               · (intro w hSw;(try dsimp only at hSw);go_simp;(try with_reducible rfl))
               rotate_left
               simp only [Act.put,zq0,zq1,zq2,zq3,zq4,zq5]
               refine wpAnyH_take (i:=6) (v:=?_) rfl (by kernel_rfl) (by kernel_rfl) (by kernel_rfl) (fun _ _ _ h=>h) (Or.inl ⟨by rfl,?_⟩) hS ?_
               rotate_left
               · (intro w hSw;(try dsimp only at hSw);go_simp;(try with_reducible rfl))
               rotate_left
               simp only [Act.put,zq0,zq1,zq2,zq3,zq4,zq5]
               refine wpAnyH_take (i:=7) (v:=?_) rfl (by kernel_rfl) (by kernel_rfl) (by kernel_rfl) (fun _ _ _ h=>h) (Or.inl ⟨by rfl,?_⟩) hS ?_
               rotate_left
               · (intro w hSw;(try dsimp only at hSw);go_simp;(try with_reducible rfl))
               rotate_left
               simp only [Act.put,zq0,zq1,zq2,zq3,zq4,zq5]
               refine wpAnyH_take (i:=8) (v:=?_) rfl (by kernel_rfl) (by kernel_rfl) (by kernel_rfl) (fun _ _ _ h=>h) (Or.inl ⟨by rfl,?_⟩) hS ?_
               rotate_left
               · (intro w hSw;have sq:=run_string_bs (P:=Try.prog) c5 29 9 5 Try.underlying29 Try.underlying5 Try.underlying9 hSw.2.2.2.2.2.2.2.1;(try dsimp only at hSw);go_simp;(try with_reducible rfl))
               rotate_left
               try simp only [Act.put,zq0,zq1,zq2,zq3,zq4,zq5]
               refine wpAnyH_take (i:=9) (v:=?_) rfl (by kernel_rfl) (by kernel_rfl) (by kernel_rfl) (fun _ _ _ h=>h) (Or.inl ⟨by rfl,?_⟩) hS ?_
               rotate_left
               · (intro w hSw;(try dsimp only at hSw);go_simp;(try with_reducible rfl))
               rotate_left
               simp only [Act.put,zq0,zq1,zq2,zq3,zq4,zq5]
               refine wpAnyH_take (i:=10) (v:=?_) rfl (by kernel_rfl) (by kernel_rfl) (by kernel_rfl) (fun _ _ _ h=>h) (Or.inl ⟨by rfl,?_⟩) hS ?_
               rotate_left
               · (intro w hSw;(try dsimp only at hSw);go_simp;(try with_reducible rfl))
               rotate_left
               simp only [Act.put,zq0,zq1,zq2,zq3,zq4,zq5]
               refine wpAnyH_take (i:=11) (v:=?_) rfl (by kernel_rfl) (by kernel_rfl) (by kernel_rfl) (fun _ _ _ h=>h) (Or.inl ⟨by rfl,?_⟩) hS ?_
               rotate_left
               · (intro w hSw;(try dsimp only at hSw);go_simp;(try with_reducible rfl))
               rotate_left
               simp only [Act.put,zq0,zq1,zq2,zq3,zq4,zq5]
               refine wpAnyH_take (i:=12) (v:=?_) rfl (by kernel_rfl) (by kernel_rfl) (by kernel_rfl) (fun _ _ _ h=>h) (Or.inl ⟨by rfl,?_⟩) hS ?_
               rotate_left
               · (intro w hSw;(try dsimp only at hSw);go_simp;(try with_reducible rfl))
               rotate_left
               simp only [Act.put,zq0,zq1,zq2,zq3,zq4,zq5]
               refine wpAnyH_take (i:=13) (v:=?_) rfl (by kernel_rfl) (by kernel_rfl) (by kernel_rfl) (fun _ _ _ h=>h) (Or.inl ⟨by rfl,?_⟩) hS ?_
               rotate_left
               · (intro w hSw;(try dsimp only at hSw);go_simp;(try with_reducible rfl))
               rotate_left
               simp only [Act.put,zq0,zq1,zq2,zq3,zq4,zq5]
               refine wpAnyH_take (i:=14) (v:=?_) rfl (by kernel_rfl) (by kernel_rfl) (by kernel_rfl) (fun _ _ _ h=>h) (Or.inl ⟨by rfl,?_⟩) hS ?_
               rotate_left
               · (intro w hSw;(try dsimp only at hSw);go_simp;(try with_reducible rfl))
               rotate_left
               simp only [Act.put,zq0,zq1,zq2,zq3,zq4,zq5]
               refine wpAnyH_take (i:=15) (v:=?_) rfl (by kernel_rfl) (by kernel_rfl) (by kernel_rfl) (fun _ _ _ h=>h) (Or.inl ⟨by rfl,?_⟩) hS ?_
               rotate_left
               · (intro w hSw;(try dsimp only at hSw);go_simp;(try with_reducible rfl))
               rotate_left
               simp only [Act.put,zq0,zq1,zq2,zq3,zq4,zq5]
               refine wpAnyH_take (i:=16) (v:=?_) rfl (by kernel_rfl) (by kernel_rfl) (by kernel_rfl) (fun _ _ _ h=>h) (Or.inl ⟨by rfl,?_⟩) hS ?_
               rotate_left
               · (intro w hSw;(try dsimp only at hSw);go_simp;(try with_reducible rfl))
               rotate_left
               simp only [Act.put,zq0,zq1,zq2,zq3,zq4,zq5]
               refine wpAnyH_take (i:=17) (v:=?_) rfl (by kernel_rfl) (by kernel_rfl) (by kernel_rfl) (fun _ _ _ h=>h) (Or.inl ⟨by rfl,?_⟩) hS ?_
               rotate_left
               · (intro w hSw;have sq:=run_string_bs (P:=Try.prog) c6 29 9 5 Try.underlying29 Try.underlying5 Try.underlying9 hSw.2.2.2.2.2.2.2.2;(try dsimp only at hSw);go_simp;(try with_reducible rfl))
               rotate_left
               try simp only [Act.put,zq0,zq1,zq2,zq3,zq4,zq5]
               refine wpAnyH_take (i:=18) (v:=?_) rfl (by kernel_rfl) (by kernel_rfl) (by kernel_rfl) (fun _ _ _ h=>h) (Or.inl ⟨by rfl,?_⟩) hS ?_
               rotate_left
               · (intro w hSw;(try dsimp only at hSw);go_simp;(try with_reducible rfl))
               rotate_left
               simp only [Act.put,zq0,zq1,zq2,zq3,zq4,zq5]
               refine wpAnyH_done (by kernel_rfl) ?_ _
               have bH:=hS.1
               clear hS HS
               have t9:=Ext.trans t3 bH
               go_wp2
               go_ret
               exact ⟨YesNo.no fun h=>by
                    have h9 : us = vs:=HLK.out.1 (by rw [h.1];intro _ _;rfl)
                    have h8 : bs = ds:=HLJ2.out.1 (by rw [h9];intro _ _;rfl)
                    rw [h8] at e3;simp at e3,t9⟩
           · have HA' : Hid (∀ i,i < k + 1 → LikeAt ys zs i):=by
              intro i hi
              by_cases h : i = k
              · subst h
                exact HLK.out.2 (like_all HLU.out hltj HB.out)
              · exact HA.out i (by omega)
             go_wp2
             go_roundw
             case rel=>exact ⟨k + 1,HLT.out,by first | exact round_same HWK | go_num,b3,HA'⟩
             case measure=>first | exact round_less HWK HLT.out | (have h:=HLT.out;simp [intOf];omega)
      · have HYZ:=Lib.hid (like_all HLY.out hlt HA.out)
        clear hk HA
        go_wp2
        clear x1 y1 P1 Q1 t1
        go_loopw [7] (fun i wr=>∃ (j : Nat),j ≤ gs.length ∧ i = .int .i64 j ∧ Below W.heap.size W wr ∧ Hid (∀ i,i < j → LikeAt gs hs i)) (fun i _=>gs.length - (intOf i).toNat)
        case atStart=>exact ⟨0,by omega,rfl,b1,fun i h=>absurd h (Nat.not_lt_zero _)⟩
        case round=>
         obtain ⟨j,hj,rfl,b2,HB⟩:=hrel
         clear b1
         have P2:=P0.next b2
         have Q2:=Q0.next b2
         have x2:=P2.cell
         have y2:=Q2.cell
         have t2:=Ext.trans t0 b2
         by_cases hltj : j < gs.length
         · have hltj2 : j < hs.length:=by have:=HLG.out;omega
           obtain ⟨b,off,Ab,cg,Am,cm,rfl,q0,q1,q2,q3,q4,q5,i0,i1,i2,rb,rm⟩:=go_at (HG.out.below b2) hltj
           obtain ⟨b',off',Eb,eg,Em,em,rfl,p0,p1,p2,p3,p4,p5,k0,k1,k2,rb',rm'⟩:=go_at (HH.out.below b2) hltj2
           have HLJ2 : Hid (LikeAt gs hs j ↔ gs[j] = hs[j]):=⟨fun h=>h hltj hltj2,fun h _ _=>h⟩
           generalize gs[j] = g1 at *
           generalize hs[j] = g2 at *
           have HWJ:=next_wrap HGM.out hltj
           have HLJ:=Lib.hid hltj
           have HLJJ:=Lib.hid hltj2
           have HRB:=Lib.hid rb
           have HRM:=Lib.hid rm
           have HRB':=Lib.hid rb'
           have HRM':=Lib.hid rm'
           clear rb rm rb' rm' i0 i1 i2 k0 k1 k2 hj
           go_upto_region 16 with fail
           clear x2 y2
           have tr : Hid (∀ w',Below wr.heap.size wr w' → ∀ (p : Addr) (v : Value),wr.cell? p = some v → w'.cell? p = some v):=fun w' bb p v hv=>(bb.cell (block_lt_of_cell hv)).trans hv
           have HS : Hid (∀ w',Below wr.heap.size wr w' → (Below wr.heap.size wr w' ∧ (∀ o,w'.cell? ⟨w.heap.size,o,none⟩ = #[.slice A ys.length c,.slice (some ⟨b,off,none⟩) gs.length d].toList[o]?) ∧ (∀ o,w'.cell? ⟨w.heap.size + 1,o,none⟩ = #[.slice E zs.length f,.slice (some ⟨b',off',none⟩) hs.length g].toList[o]?) ∧ (w'.cell? ⟨b,off + j * 6,none⟩ = some (.int .i64 (nuOf g1)) ∧ w'.cell? ⟨b,off + j * 6 + 1,none⟩ = some (.int .u8 ((kiOf g1).toNat : Int)) ∧ w'.cell? ⟨b,off + j * 6 + 2,none⟩ = some (.int .i64 (atOf g1)) ∧ w'.cell? ⟨b,off + j * 6 + 3,none⟩ = some (.int .i64 (manyOf g1)) ∧ w'.cell? ⟨b,off + j * 6 + 4,none⟩ = some (.slice Ab (datOf g1).length cg) ∧ w'.cell? ⟨b,off + j * 6 + 5,none⟩ = some (.slice Am (mksOf g1).length cm)) ∧ (w'.cell? ⟨b',off' + j * 6,none⟩ = some (.int .i64 (nuOf g2)) ∧ w'.cell? ⟨b',off' + j * 6 + 1,none⟩ = some (.int .u8 ((kiOf g2).toNat : Int)) ∧ w'.cell? ⟨b',off' + j * 6 + 2,none⟩ = some (.int .i64 (atOf g2)) ∧ w'.cell? ⟨b',off' + j * 6 + 3,none⟩ = some (.int .i64 (manyOf g2)) ∧ w'.cell? ⟨b',off' + j * 6 + 4,none⟩ = some (.slice Eb (datOf g2).length eg) ∧ w'.cell? ⟨b',off' + j * 6 + 5,none⟩ = some (.slice Em (mksOf g2).length em)))):=fun w' b=>⟨b,(P2.next b).cell,(Q2.next b).cell,⟨tr.out _ b _ _ q0,tr.out _ b _ _ q1,tr.out _ b _ _ q2,tr.out _ b _ _ q3,tr.out _ b _ _ q4,tr.out _ b _ _ q5⟩,⟨tr.out _ b _ _ p0,tr.out _ b _ _ p1,tr.out _ b _ _ p2,tr.out _ b _ _ p3,tr.out _ b _ _ p4,tr.out _ b _ _ p5⟩⟩
           refine wp_region_held_drew (S:=fun w'=>Below wr.heap.size wr w' ∧ (∀ o,w'.cell? ⟨w.heap.size,o,none⟩ = #[.slice A ys.length c,.slice (some ⟨b,off,none⟩) gs.length d].toList[o]?) ∧ (∀ o,w'.cell? ⟨w.heap.size + 1,o,none⟩ = #[.slice E zs.length f,.slice (some ⟨b',off',none⟩) hs.length g].toList[o]?) ∧ (w'.cell? ⟨b,off + j * 6,none⟩ = some (.int .i64 (nuOf g1)) ∧ w'.cell? ⟨b,off + j * 6 + 1,none⟩ = some (.int .u8 ((kiOf g1).toNat : Int)) ∧ w'.cell? ⟨b,off + j * 6 + 2,none⟩ = some (.int .i64 (atOf g1)) ∧ w'.cell? ⟨b,off + j * 6 + 3,none⟩ = some (.int .i64 (manyOf g1)) ∧ w'.cell? ⟨b,off + j * 6 + 4,none⟩ = some (.slice Ab (datOf g1).length cg) ∧ w'.cell? ⟨b,off + j * 6 + 5,none⟩ = some (.slice Am (mksOf g1).length cm)) ∧ (w'.cell? ⟨b',off' + j * 6,none⟩ = some (.int .i64 (nuOf g2)) ∧ w'.cell? ⟨b',off' + j * 6 + 1,none⟩ = some (.int .u8 ((kiOf g2).toNat : Int)) ∧ w'.cell? ⟨b',off' + j * 6 + 2,none⟩ = some (.int .i64 (atOf g2)) ∧ w'.cell? ⟨b',off' + j * 6 + 3,none⟩ = some (.int .i64 (manyOf g2)) ∧ w'.cell? ⟨b',off' + j * 6 + 4,none⟩ = some (.slice Eb (datOf g2).length eg) ∧ w'.cell? ⟨b',off' + j * 6 + 5,none⟩ = some (.slice Em (mksOf g2).length em))) (by kernel_rfl) (HS.out _ (Ext.drew (Below.refl _ _))) (fun hS=>?_)
           have bd : Below wr.heap.size wr wr.drew:=Ext.drew (Below.refl _ _)
           generalize wr.drew = wd at *
           refine wpAnyH_take (i:=0) (v:=?_) rfl (by kernel_rfl) (by kernel_rfl) (by kernel_rfl) (fun _ _ _ h=>h) (Or.inl ⟨by rfl,?_⟩) hS ?_
           rotate_left
           · (intro w hSw;(try dsimp only at hSw);go_simp;(try with_reducible rfl))
           rotate_left
           simp only [Act.put,zq0,zq1,zq2,zq3,zq4,zq5]
           refine wpAnyH_take (i:=1) (v:=?_) rfl (by kernel_rfl) (by kernel_rfl) (by kernel_rfl) (fun _ _ _ h=>h) (Or.inl ⟨by rfl,?_⟩) hS ?_
           rotate_left
           · (intro w hSw;(try dsimp only at hSw);go_simp;(try with_reducible rfl))
           rotate_left
           simp only [Act.put,zq0,zq1,zq2,zq3,zq4,zq5]
           refine wpAnyH_take (i:=2) (v:=?_) rfl (by kernel_rfl) (by kernel_rfl) (by kernel_rfl) (fun _ _ _ h=>h) (Or.inl ⟨by rfl,?_⟩) hS ?_
           rotate_left
           · (intro w hSw;(try dsimp only at hSw);go_simp;(try with_reducible rfl))
           rotate_left
           simp only [Act.put,zq0,zq1,zq2,zq3,zq4,zq5]
           refine wpAnyH_take (i:=3) (v:=?_) rfl (by kernel_rfl) (by kernel_rfl) (by kernel_rfl) (fun _ _ _ h=>h) (Or.inl ⟨by rfl,?_⟩) hS ?_
           rotate_left
           · (intro w hSw;(try dsimp only at hSw);go_simp;(try with_reducible rfl))
           rotate_left
           simp only [Act.put,zq0,zq1,zq2,zq3,zq4,zq5]
           refine wpAnyH_take (i:=4) (v:=?_) rfl (by kernel_rfl) (by kernel_rfl) (by kernel_rfl) (fun _ _ _ h=>h) (Or.inl ⟨by rfl,?_⟩) hS ?_
           rotate_left
           · (intro w hSw;(try dsimp only at hSw);go_simp;(try with_reducible rfl))
           rotate_left
           simp only [Act.put,zq0,zq1,zq2,zq3,zq4,zq5]
           refine wpAnyH_take (i:=5) (v:=?_) rfl (by kernel_rfl) (by kernel_rfl) (by kernel_rfl) (fun _ _ _ h=>h) (Or.inl ⟨by rfl,?_⟩) hS ?_
           rotate_left
           · (intro w hSw;(try dsimp only at hSw);go_simp;(try with_reducible rfl))
           rotate_left
           simp only [Act.put,zq0,zq1,zq2,zq3,zq4,zq5]
           refine wpAnyH_take (i:=6) (v:=?_) rfl (by kernel_rfl) (by kernel_rfl) (by kernel_rfl) (fun _ _ _ h=>h) (Or.inl ⟨by rfl,?_⟩) hS ?_
           rotate_left
           · (intro w hSw;(try dsimp only at hSw);go_simp;(try with_reducible rfl))
           rotate_left
           simp only [Act.put,zq0,zq1,zq2,zq3,zq4,zq5]
           refine wpAnyH_take (i:=7) (v:=?_) rfl (by kernel_rfl) (by kernel_rfl) (by kernel_rfl) (fun _ _ _ h=>h) (Or.inl ⟨by rfl,?_⟩) hS ?_
           rotate_left
           · (intro w hSw;(try dsimp only at hSw);go_simp;(try with_reducible rfl))
           rotate_left
           simp only [Act.put,zq0,zq1,zq2,zq3,zq4,zq5]
           refine wpAnyH_take (i:=8) (v:=?_) rfl (by kernel_rfl) (by kernel_rfl) (by kernel_rfl) (fun _ _ _ h=>h) (Or.inl ⟨by rfl,?_⟩) hS ?_
           rotate_left
           · (intro w hSw;(try dsimp only at hSw);go_simp;(try with_reducible rfl))
           rotate_left
           simp only [Act.put,zq0,zq1,zq2,zq3,zq4,zq5]
           refine wpAnyH_take (i:=9) (v:=?_) rfl (by kernel_rfl) (by kernel_rfl) (by kernel_rfl) (fun _ _ _ h=>h) (Or.inl ⟨by rfl,?_⟩) hS ?_
           rotate_left
           · (intro w hSw;(try dsimp only at hSw);go_simp;(try with_reducible rfl))
           rotate_left
           simp only [Act.put,zq0,zq1,zq2,zq3,zq4,zq5]
           refine wpAnyH_ready (rs:=[10,11]) (by kernel_rfl) (by simp) ?_
           refine AllReadyH.cons rfl (fun K hK=>?_) (AllReadyH.cons rfl (fun K hK=>?_) AllReadyH.nil)
           · rw [if_pos (by rfl)]
             go_simp
             refine hK.out _ _ (HS.out _ (Ext.alloc bd (.cells #[.int .i64 0,.int .u8 0,.int .i64 0,.int .i64 0,.slice none 0 0,.slice none 0 0] 64))) (fun hS'=>?_)
             clear hK K hS
             have hS:=hS'
             clear hS'
             try simp only [Act.put,zq0,zq1,zq2,zq3,zq4,zq5]
             refine wpAnyH_ready (rs:=[11]) (by kernel_rfl) (by simp) ?_
             refine AllReadyH.cons rfl (fun K hK=>?_) AllReadyH.nil
             rw [if_pos (by rfl)]
             go_simp
             refine hK.out _ _ (HS.out _ (Ext.alloc (Ext.alloc bd (.cells #[.int .i64 0,.int .u8 0,.int .i64 0,.int .i64 0,.slice none 0 0,.slice none 0 0] 64)) (.cells #[.int .i64 0,.int .u8 0,.int .i64 0,.int .i64 0,.slice none 0 0,.slice none 0 0] 64))) (fun hS'=>?_)
             have bd2:=Ext.alloc (Ext.alloc bd (.cells #[.int .i64 0,.int .u8 0,.int .i64 0,.int .i64 0,.slice none 0 0,.slice none 0 0] 64)) (.cells #[.int .i64 0,.int .u8 0,.int .i64 0,.int .i64 0,.slice none 0 0,.slice none 0 0] 64)
             clear hK K hS
             have hS:=hS'
             clear hS'
             try simp only [Act.put,zq0,zq1,zq2,zq3,zq4,zq5]
             have U1:=BoxOf.alloc (BoxOf.new wd #[.int .i64 0,.int .u8 0,.int .i64 0,.int .i64 0,.slice none 0 0,.slice none 0 0] 64) (.cells #[.int .i64 0,.int .u8 0,.int .i64 0,.int .i64 0,.slice none 0 0,.slice none 0 0] 64)
             have V1:=BoxOf.new' (wd.alloc (.cells #[.int .i64 0,.int .u8 0,.int .i64 0,.int .i64 0,.slice none 0 0,.slice none 0 0] 64)) (wd.heap.size + 1) #[.int .i64 0,.int .u8 0,.int .i64 0,.int .i64 0,.slice none 0 0,.slice none 0 0] 64 (by simp)
             obtain ⟨g8,hg8⟩ : ∃ z : Nat,z = wd.heap.size:=⟨_,rfl⟩
             obtain ⟨g9,hg9⟩ : ∃ z : Nat,z = wd.heap.size + 1:=⟨_,rfl⟩
             rw [← hg9] at V1 ⊢
             rw [← hg8] at U1 ⊢
             have hne : g8 ≠ g9:=by omega
             have hlo : wr.heap.size ≤ g8 ∧ wr.heap.size ≤ g9:=by have:=bd.size;omega
             generalize (wd.alloc (.cells #[.int .i64 0,.int .u8 0,.int .i64 0,.int .i64 0,.slice none 0 0,.slice none 0 0] 64)).alloc (.cells #[.int .i64 0,.int .u8 0,.int .i64 0,.int .i64 0,.slice none 0 0,.slice none 0 0] 64) = we at *
             clear hg8 hg9
             refine wpAnyH_ready (rs:=[12]) (by kernel_rfl) (by simp) ?_
             refine AllReadyH.cons rfl (fun K hK=>?_) AllReadyH.nil
             rw [if_pos (by rfl)]
             have fU:=U1.free
             have yU:=U1.cell
             go_simp
             clear fU yU
             have U2:=set6_self U1 (.int .i64 (nuOf g1)) (.int .u8 ((kiOf g1).toNat : Int)) (.int .i64 (atOf g1)) (.int .i64 (manyOf g1)) (.slice Ab (datOf g1).length cg) (.slice Am (mksOf g1).length cm)
             have V2:=set6_else V1 hne.symm (.int .i64 (nuOf g1)) (.int .u8 ((kiOf g1).toNat : Int)) (.int .i64 (atOf g1)) (.int .i64 (manyOf g1)) (.slice Ab (datOf g1).length cg) (.slice Am (mksOf g1).length cm)
             have bd3:=set6_below bd2 hlo.1 (.int .i64 (nuOf g1)) (.int .u8 ((kiOf g1).toNat : Int)) (.int .i64 (atOf g1)) (.int .i64 (manyOf g1)) (.slice Ab (datOf g1).length cg) (.slice Am (mksOf g1).length cm)
             refine hK.out _ (set6 we g8 (.int .i64 (nuOf g1)) (.int .u8 ((kiOf g1).toNat : Int)) (.int .i64 (atOf g1)) (.int .i64 (manyOf g1)) (.slice Ab (datOf g1).length cg) (.slice Am (mksOf g1).length cm)) (HS.out _ bd3) (fun hS'=>?_)
             clear hK K hS U1 V1 bd2
             have hS:=hS'
             clear hS'
             generalize set6 we g8 (.int .i64 (nuOf g1)) (.int .u8 ((kiOf g1).toNat : Int)) (.int .i64 (atOf g1)) (.int .i64 (manyOf g1)) (.slice Ab (datOf g1).length cg) (.slice Am (mksOf g1).length cm) = wf at *
             try simp only [Act.put,zq0,zq1,zq2,zq3,zq4,zq5]
             refine wpAnyH_ready (rs:=[13]) (by kernel_rfl) (by simp) ?_
             refine AllReadyH.cons rfl (fun K hK=>?_) AllReadyH.nil
             rw [if_pos (by rfl)]
             have fU:=V2.free
             have yU:=V2.cell
             go_simp
             clear fU yU
             have V3:=set6_self V2 (.int .i64 (nuOf g2)) (.int .u8 ((kiOf g2).toNat : Int)) (.int .i64 (atOf g2)) (.int .i64 (manyOf g2)) (.slice Eb (datOf g2).length eg) (.slice Em (mksOf g2).length em)
             have U3:=set6_else U2 hne (.int .i64 (nuOf g2)) (.int .u8 ((kiOf g2).toNat : Int)) (.int .i64 (atOf g2)) (.int .i64 (manyOf g2)) (.slice Eb (datOf g2).length eg) (.slice Em (mksOf g2).length em)
             have bd4:=set6_below bd3 hlo.2 (.int .i64 (nuOf g2)) (.int .u8 ((kiOf g2).toNat : Int)) (.int .i64 (atOf g2)) (.int .i64 (manyOf g2)) (.slice Eb (datOf g2).length eg) (.slice Em (mksOf g2).length em)
             refine hK.out _ (set6 wf g9 (.int .i64 (nuOf g2)) (.int .u8 ((kiOf g2).toNat : Int)) (.int .i64 (atOf g2)) (.int .i64 (manyOf g2)) (.slice Eb (datOf g2).length eg) (.slice Em (mksOf g2).length em)) (HS.out _ bd4) (fun hS'=>?_)
             clear hK K hS hS' U2 V2 bd3
             generalize set6 wf g9 (.int .i64 (nuOf g2)) (.int .u8 ((kiOf g2).toNat : Int)) (.int .i64 (atOf g2)) (.int .i64 (manyOf g2)) (.slice Eb (datOf g2).length eg) (.slice Em (mksOf g2).length em) = wh at *
             try simp only [Act.put,zq0,zq1,zq2,zq3,zq4,zq5]
             refine wpAnyH_done (by kernel_rfl) ?_ _
             clear HS
             have P4:=P2.next bd4
             have Q4:=Q2.next bd4
             have t4:=Ext.trans t2 bd4
             have b4:=Ext.trans b2 bd4
             have HRB4:=Lib.hid (HRB.out.below bd4)
             have HRM4:=Lib.hid (HRM.out.below bd4)
             have HRB5:=Lib.hid (HRB'.out.below bd4)
             have HRM5:=Lib.hid (HRM'.out.below bd4)
             have u4:=U3.cell
             have v4:=V3.cell
             clear bd4 tr bd hlo hne q0 q1 q2 q3 q4 q5 p0 p1 p2 p3 p4 p5
             rcases Bool.eq_false_or_eq_true (nuOf g1 != nuOf g2) with e1 | e1
             · go_wp2
               go_ret
               exact ⟨YesNo.no fun h=>by
                    have h9 : g1 = g2:=HLJ2.out.1 (by rw [h.2];intro _ _;rfl)
                    rw [h9] at e1;simp at e1,t4⟩
             · have HS8:=Lib.hid (rsame8_any ((kiOf g1).toNat : Int) (atOf g1) (manyOf g1) Ab cg (datOf g1) ((kiOf g2).toNat : Int) (atOf g2) (manyOf g2) Eb eg (datOf g2) wh HRB4.out.bytes_bs HRB5.out.bytes_bs)
               go_wp2_with fail
               refine HS8.out.mono ?_
               rintro e w5 ⟨⟨bt,rfl,hbt⟩,b5⟩
               have HBT:=Lib.hid hbt
               have U5:=U3.next b5
               have V5:=V3.next b5
               have t5:=Ext.trans t4 b5
               have b6:=Ext.trans b4 b5
               have P6:=P4.next b5
               have Q6:=Q4.next b5
               have u5:=U5.cell
               have v5:=V5.cell
               have HRM6:=Lib.hid (HRM4.out.below b5)
               have HRM7:=Lib.hid (HRM5.out.below b5)
               clear hbt u4 v4 U3 V3 t4 b4 HS8 b5 P4 Q4
               cases bt with
               | false=>
                 go_wp2
                 go_ret
                 exact ⟨YesNo.no fun h=>by
                     have h9 : g1 = g2:=HLJ2.out.1 (by rw [h.2];intro _ _;rfl)
                     have h8:=HBT.out.2 (by rw [h9];exact ⟨rfl,rfl,rfl,rfl⟩)
                     exact absurd h8 (by decide),t5⟩
               | true=>
                 rcases Bool.eq_false_or_eq_true (((mksOf g1).length : Int) != ((mksOf g2).length : Int)) with e2 | e2
                 · go_wp2
                   go_ret
                   exact ⟨YesNo.no fun h=>by
                      have h9 : g1 = g2:=HLJ2.out.1 (by rw [h.2];intro _ _;rfl)
                      rw [h9] at e2;simp at e2,t5⟩
                 · have HML : Hid ((mksOf g1).length = (mksOf g2).length):=by have h9 : ((mksOf g1).length : Int) = ((mksOf g2).length : Int):=(by simpa using e2)
                                                                              show _ = _
                                                                              omega
                   have HNU : Hid (nuOf g1 = nuOf g2):=by show _ = _;simpa using e1
                   have HMM:=Lib.hid (mark_max HRM6.out)
                   go_wp2
                   clear u5 v5 e1 e2
                   go_loopw [10] (fun i wr=>∃ (q : Nat),q ≤ (mksOf g1).length ∧ i = .int .i64 q ∧ Below w5.heap.size w5 wr ∧ Hid (∀ i,i < q → LikeAt (mksOf g1) (mksOf g2) i)) (fun i _=>(mksOf g1).length - (intOf i).toNat)
                   case atStart=>exact ⟨0,by omega,rfl,Below.refl _ _,fun i h=>absurd h (Nat.not_lt_zero _)⟩
                   case round=>
                      obtain ⟨q,hq,rfl,b7,HC⟩:=hrel
                      have U6:=U5.next b7
                      have V6:=V5.next b7
                      have u6:=U6.cell
                      have v6:=V6.cell
                      have t6:=Ext.trans t5 b7
                      have b8:=Ext.trans b6 b7
                      by_cases hltq : q < (mksOf g1).length
                      · have hltq2 : q < (mksOf g2).length:=by have:=HML.out;omega
                        obtain ⟨b7',o7',rfl,m1,_⟩:=mark_at (HRM6.out.below b7) hltq
                        obtain ⟨b8',o8',rfl,m2,_⟩:=mark_at (HRM7.out.below b7) hltq2
                        have HLQ2 : Hid (LikeAt (mksOf g1) (mksOf g2) q ↔ (mksOf g1)[q] = (mksOf g2)[q]):=⟨fun h=>h hltq hltq2,fun h _ _=>h⟩
                        generalize (mksOf g1)[q] = z1 at *
                        generalize (mksOf g2)[q] = z2 at *
                        have HWQ:=next_wrap HMM.out hltq
                        have HLQ:=Lib.hid hltq
                        have HLQQ:=Lib.hid hltq2
                        rcases Bool.eq_false_or_eq_true (z1 != z2) with e3 | e3
                        · go_wp2
                          go_quiet (fail)
                          go_wp2
                          go_ret
                          exact ⟨YesNo.no fun h=>by
                           have h9 : g1 = g2:=HLJ2.out.1 (by rw [h.2];intro _ _;rfl)
                           have h8:=HLQ2.out.1 (by rw [h9];intro _ _;rfl)
                           rw [h8] at e3;simp at e3,below_drewN' t6 _⟩
                        · have HC' : Hid (∀ i,i < q + 1 → LikeAt (mksOf g1) (mksOf g2) i):=by
                           intro i hi
                           by_cases h : i = q
                           · subst h
                             exact HLQ2.out.2 (by simpa using e3)
                           · exact HC.out i (by omega)
                          go_wp2
                          go_quiet (fail)
                          go_wp2
                          go_roundw
                          case rel=>exact ⟨q + 1,HLQ.out,by first | exact round_same HWQ | go_num,below_drewN' b7 _,HC'⟩
                          case measure=>first | exact round_less HWQ HLQ.out | (have h:=HLQ.out;simp [intOf];omega)
                      · have HB' : Hid (∀ i,i < j + 1 → LikeAt gs hs i):=by
                         intro i hi
                         by_cases h : i = j
                         · subst h
                           obtain ⟨h1,h2,h3,h4⟩:=HBT.out.1 (by first | rfl | trivial)
                           exact HLJ2.out.2 (go_ext HNU.out (UInt8.toNat_inj.1 (by omega)) h2 h3 h4 (like_all HML.out hltq HC.out))
                         · exact HB.out i (by omega)
                        go_wp2
                        go_roundw
                        case rel=>exact ⟨j + 1,HLJ.out,by first | exact round_same HWJ | go_num,b8,HB'⟩
                        case measure=>first | exact round_less HWJ HLJ.out | (have h:=HLJ.out;simp [intOf];omega)
           · rw [if_pos (by rfl)]
             go_simp
             refine hK.out _ _ (HS.out _ (Ext.alloc bd (.cells #[.int .i64 0,.int .u8 0,.int .i64 0,.int .i64 0,.slice none 0 0,.slice none 0 0] 64))) (fun hS'=>?_)
             clear hK K hS
             have hS:=hS'
             clear hS'
             try simp only [Act.put,zq0,zq1,zq2,zq3,zq4,zq5]
             refine wpAnyH_ready (rs:=[10]) (by kernel_rfl) (by simp) ?_
             refine AllReadyH.cons rfl (fun K hK=>?_) AllReadyH.nil
             rw [if_pos (by rfl)]
             go_simp
             refine hK.out _ _ (HS.out _ (Ext.alloc (Ext.alloc bd (.cells #[.int .i64 0,.int .u8 0,.int .i64 0,.int .i64 0,.slice none 0 0,.slice none 0 0] 64)) (.cells #[.int .i64 0,.int .u8 0,.int .i64 0,.int .i64 0,.slice none 0 0,.slice none 0 0] 64))) (fun hS'=>?_)
             have bd2:=Ext.alloc (Ext.alloc bd (.cells #[.int .i64 0,.int .u8 0,.int .i64 0,.int .i64 0,.slice none 0 0,.slice none 0 0] 64)) (.cells #[.int .i64 0,.int .u8 0,.int .i64 0,.int .i64 0,.slice none 0 0,.slice none 0 0] 64)
             clear hK K hS
             have hS:=hS'
             clear hS'
             try simp only [Act.put,zq0,zq1,zq2,zq3,zq4,zq5]
             have V1:=BoxOf.alloc (BoxOf.new wd #[.int .i64 0,.int .u8 0,.int .i64 0,.int .i64 0,.slice none 0 0,.slice none 0 0] 64) (.cells #[.int .i64 0,.int .u8 0,.int .i64 0,.int .i64 0,.slice none 0 0,.slice none 0 0] 64)
             have U1:=BoxOf.new' (wd.alloc (.cells #[.int .i64 0,.int .u8 0,.int .i64 0,.int .i64 0,.slice none 0 0,.slice none 0 0] 64)) (wd.heap.size + 1) #[.int .i64 0,.int .u8 0,.int .i64 0,.int .i64 0,.slice none 0 0,.slice none 0 0] 64 (by simp)
             obtain ⟨g9,hg9⟩ : ∃ z : Nat,z = wd.heap.size:=⟨_,rfl⟩
             obtain ⟨g8,hg8⟩ : ∃ z : Nat,z = wd.heap.size + 1:=⟨_,rfl⟩
             rw [← hg8] at U1 ⊢
             rw [← hg9] at V1 ⊢
             have hne : g8 ≠ g9:=by omega
             have hlo : wr.heap.size ≤ g8 ∧ wr.heap.size ≤ g9:=by have:=bd.size;omega
             generalize (wd.alloc (.cells #[.int .i64 0,.int .u8 0,.int .i64 0,.int .i64 0,.slice none 0 0,.slice none 0 0] 64)).alloc (.cells #[.int .i64 0,.int .u8 0,.int .i64 0,.int .i64 0,.slice none 0 0,.slice none 0 0] 64) = we at *
             clear hg8 hg9
             refine wpAnyH_ready (rs:=[12]) (by kernel_rfl) (by simp) ?_
             refine AllReadyH.cons rfl (fun K hK=>?_) AllReadyH.nil
             rw [if_pos (by rfl)]
             have fU:=U1.free
             have yU:=U1.cell
             go_simp
             clear fU yU
             have U2:=set6_self U1 (.int .i64 (nuOf g1)) (.int .u8 ((kiOf g1).toNat : Int)) (.int .i64 (atOf g1)) (.int .i64 (manyOf g1)) (.slice Ab (datOf g1).length cg) (.slice Am (mksOf g1).length cm)
             have V2:=set6_else V1 hne.symm (.int .i64 (nuOf g1)) (.int .u8 ((kiOf g1).toNat : Int)) (.int .i64 (atOf g1)) (.int .i64 (manyOf g1)) (.slice Ab (datOf g1).length cg) (.slice Am (mksOf g1).length cm)
             have bd3:=set6_below bd2 hlo.1 (.int .i64 (nuOf g1)) (.int .u8 ((kiOf g1).toNat : Int)) (.int .i64 (atOf g1)) (.int .i64 (manyOf g1)) (.slice Ab (datOf g1).length cg) (.slice Am (mksOf g1).length cm)
             refine hK.out _ (set6 we g8 (.int .i64 (nuOf g1)) (.int .u8 ((kiOf g1).toNat : Int)) (.int .i64 (atOf g1)) (.int .i64 (manyOf g1)) (.slice Ab (datOf g1).length cg) (.slice Am (mksOf g1).length cm)) (HS.out _ bd3) (fun hS'=>?_)
             clear hK K hS U1 V1 bd2
             have hS:=hS'
             clear hS'
             generalize set6 we g8 (.int .i64 (nuOf g1)) (.int .u8 ((kiOf g1).toNat : Int)) (.int .i64 (atOf g1)) (.int .i64 (manyOf g1)) (.slice Ab (datOf g1).length cg) (.slice Am (mksOf g1).length cm) = wf at *
             try simp only [Act.put,zq0,zq1,zq2,zq3,zq4,zq5]
             refine wpAnyH_ready (rs:=[13]) (by kernel_rfl) (by simp) ?_
             refine AllReadyH.cons rfl (fun K hK=>?_) AllReadyH.nil
             rw [if_pos (by rfl)]
             have fU:=V2.free
             have yU:=V2.cell
             go_simp
             clear fU yU
             have V3:=set6_self V2 (.int .i64 (nuOf g2)) (.int .u8 ((kiOf g2).toNat : Int)) (.int .i64 (atOf g2)) (.int .i64 (manyOf g2)) (.slice Eb (datOf g2).length eg) (.slice Em (mksOf g2).length em)
             have U3:=set6_else U2 hne (.int .i64 (nuOf g2)) (.int .u8 ((kiOf g2).toNat : Int)) (.int .i64 (atOf g2)) (.int .i64 (manyOf g2)) (.slice Eb (datOf g2).length eg) (.slice Em (mksOf g2).length em)
             have bd4:=set6_below bd3 hlo.2 (.int .i64 (nuOf g2)) (.int .u8 ((kiOf g2).toNat : Int)) (.int .i64 (atOf g2)) (.int .i64 (manyOf g2)) (.slice Eb (datOf g2).length eg) (.slice Em (mksOf g2).length em)
             refine hK.out _ (set6 wf g9 (.int .i64 (nuOf g2)) (.int .u8 ((kiOf g2).toNat : Int)) (.int .i64 (atOf g2)) (.int .i64 (manyOf g2)) (.slice Eb (datOf g2).length eg) (.slice Em (mksOf g2).length em)) (HS.out _ bd4) (fun hS'=>?_)
             clear hK K hS hS' U2 V2 bd3
             generalize set6 wf g9 (.int .i64 (nuOf g2)) (.int .u8 ((kiOf g2).toNat : Int)) (.int .i64 (atOf g2)) (.int .i64 (manyOf g2)) (.slice Eb (datOf g2).length eg) (.slice Em (mksOf g2).length em) = wh at *
             try simp only [Act.put,zq0,zq1,zq2,zq3,zq4,zq5]
             refine wpAnyH_done (by kernel_rfl) ?_ _
             clear HS
             have P4:=P2.next bd4
             have Q4:=Q2.next bd4
             have t4:=Ext.trans t2 bd4
             have b4:=Ext.trans b2 bd4
             have HRB4:=Lib.hid (HRB.out.below bd4)
             have HRM4:=Lib.hid (HRM.out.below bd4)
             have HRB5:=Lib.hid (HRB'.out.below bd4)
             have HRM5:=Lib.hid (HRM'.out.below bd4)
             have u4:=U3.cell
             have v4:=V3.cell
             clear bd4 tr bd hlo hne q0 q1 q2 q3 q4 q5 p0 p1 p2 p3 p4 p5
             rcases Bool.eq_false_or_eq_true (nuOf g1 != nuOf g2) with e1 | e1
             · go_wp2
               go_ret
               exact ⟨YesNo.no fun h=>by
                    have h9 : g1 = g2:=HLJ2.out.1 (by rw [h.2];intro _ _;rfl)
                    rw [h9] at e1;simp at e1,t4⟩
             · have HS8:=Lib.hid (rsame8_any ((kiOf g1).toNat : Int) (atOf g1) (manyOf g1) Ab cg (datOf g1) ((kiOf g2).toNat : Int) (atOf g2) (manyOf g2) Eb eg (datOf g2) wh HRB4.out.bytes_bs HRB5.out.bytes_bs)
               go_wp2_with fail
               refine HS8.out.mono ?_
               rintro e w5 ⟨⟨bt,rfl,hbt⟩,b5⟩
               have HBT:=Lib.hid hbt
               have U5:=U3.next b5
               have V5:=V3.next b5
               have t5:=Ext.trans t4 b5
               have b6:=Ext.trans b4 b5
               have P6:=P4.next b5
               have Q6:=Q4.next b5
               have u5:=U5.cell
               have v5:=V5.cell
               have HRM6:=Lib.hid (HRM4.out.below b5)
               have HRM7:=Lib.hid (HRM5.out.below b5)
               clear hbt u4 v4 U3 V3 t4 b4 HS8 b5 P4 Q4
               cases bt with
               | false=>
                 go_wp2
                 go_ret
                 exact ⟨YesNo.no fun h=>by
                     have h9 : g1 = g2:=HLJ2.out.1 (by rw [h.2];intro _ _;rfl)
                     have h8:=HBT.out.2 (by rw [h9];exact ⟨rfl,rfl,rfl,rfl⟩)
                     exact absurd h8 (by decide),t5⟩
               | true=>
                 rcases Bool.eq_false_or_eq_true (((mksOf g1).length : Int) != ((mksOf g2).length : Int)) with e2 | e2
                 · go_wp2
                   go_ret
                   exact ⟨YesNo.no fun h=>by
                      have h9 : g1 = g2:=HLJ2.out.1 (by rw [h.2];intro _ _;rfl)
                      rw [h9] at e2;simp at e2,t5⟩
                 · have HML : Hid ((mksOf g1).length = (mksOf g2).length):=by have h9 : ((mksOf g1).length : Int) = ((mksOf g2).length : Int):=(by simpa using e2)
                                                                              show _ = _
                                                                              omega
                   have HNU : Hid (nuOf g1 = nuOf g2):=by show _ = _;simpa using e1
                   have HMM:=Lib.hid (mark_max HRM6.out)
                   go_wp2
                   clear u5 v5 e1 e2
                   go_loopw [10] (fun i wr=>∃ (q : Nat),q ≤ (mksOf g1).length ∧ i = .int .i64 q ∧ Below w5.heap.size w5 wr ∧ Hid (∀ i,i < q → LikeAt (mksOf g1) (mksOf g2) i)) (fun i _=>(mksOf g1).length - (intOf i).toNat)
                   case atStart=>exact ⟨0,by omega,rfl,Below.refl _ _,fun i h=>absurd h (Nat.not_lt_zero _)⟩
                   case round=>
                      obtain ⟨q,hq,rfl,b7,HC⟩:=hrel
                      have U6:=U5.next b7
                      have V6:=V5.next b7
                      have u6:=U6.cell
                      have v6:=V6.cell
                      have t6:=Ext.trans t5 b7
                      have b8:=Ext.trans b6 b7
                      by_cases hltq : q < (mksOf g1).length
                      · have hltq2 : q < (mksOf g2).length:=by have:=HML.out;omega
                        obtain ⟨b7',o7',rfl,m1,_⟩:=mark_at (HRM6.out.below b7) hltq
                        obtain ⟨b8',o8',rfl,m2,_⟩:=mark_at (HRM7.out.below b7) hltq2
                        have HLQ2 : Hid (LikeAt (mksOf g1) (mksOf g2) q ↔ (mksOf g1)[q] = (mksOf g2)[q]):=⟨fun h=>h hltq hltq2,fun h _ _=>h⟩
                        generalize (mksOf g1)[q] = z1 at *
                        generalize (mksOf g2)[q] = z2 at *
                        have HWQ:=next_wrap HMM.out hltq
                        have HLQ:=Lib.hid hltq
                        have HLQQ:=Lib.hid hltq2
                        rcases Bool.eq_false_or_eq_true (z1 != z2) with e3 | e3
                        · go_wp2
                          go_quiet (fail)
                          go_wp2
                          go_ret
                          exact ⟨YesNo.no fun h=>by
                           have h9 : g1 = g2:=HLJ2.out.1 (by rw [h.2];intro _ _;rfl)
                           have h8:=HLQ2.out.1 (by rw [h9];intro _ _;rfl)
                           rw [h8] at e3;simp at e3,below_drewN' t6 _⟩
                        · have HC' : Hid (∀ i,i < q + 1 → LikeAt (mksOf g1) (mksOf g2) i):=by
                           intro i hi
                           by_cases h : i = q
                           · subst h
                             exact HLQ2.out.2 (by simpa using e3)
                           · exact HC.out i (by omega)
                          go_wp2
                          go_quiet (fail)
                          go_wp2
                          go_roundw
                          case rel=>exact ⟨q + 1,HLQ.out,by first | exact round_same HWQ | go_num,below_drewN' b7 _,HC'⟩
                          case measure=>first | exact round_less HWQ HLQ.out | (have h:=HLQ.out;simp [intOf];omega)
                      · have HB' : Hid (∀ i,i < j + 1 → LikeAt gs hs i):=by
                         intro i hi
                         by_cases h : i = j
                         · subst h
                           obtain ⟨h1,h2,h3,h4⟩:=HBT.out.1 (by first | rfl | trivial)
                           exact HLJ2.out.2 (go_ext HNU.out (UInt8.toNat_inj.1 (by omega)) h2 h3 h4 (like_all HML.out hltq HC.out))
                         · exact HB.out i (by omega)
                        go_wp2
                        go_roundw
                        case rel=>exact ⟨j + 1,HLJ.out,by first | exact round_same HWJ | go_num,b8,HB'⟩
                        case measure=>first | exact round_less HWJ HLJ.out | (have h:=HLJ.out;simp [intOf];omega)
         · have HGH:=Lib.hid (like_all HLG.out hltj HB.out)
           go_wp2
           go_ret
           exact ⟨YesNo.yes ⟨HYZ.out,HGH.out⟩,t2⟩
end Go.Proofs.Ytclbihcggjjgaaa
