/- What this claim needs of my texts, merged and shortened by a program (part 1). -/
import Derived.WalkKit
import Derived.ProofKit
import Derived.Laws.IdiomStrings
import Derived.Great.Walk
import Derived.Maps.AppendAt
import Derived.Deep.AppendLies
import Derived.RegionTactic
import Derived.OwnWalk
import Derived.OpenShut
import Derived.SizedLaws
import Derived.Deep.RegionHeld3
import Derived.IntWalk
import Derived.Laws.ResultCell
import Derived.Laws.Rows
import Derived.Laws.CopyOwn
import Derived.Great.BuildSlice
import Derived.BigQuiet
import Derived.Test.YthapabjlhooglaaRows
import Derived.Deep.QuietTactic
import Derived.Deep.DeepCutAuto
import Derived.BigRegion
import Derived.Deep.RegionWith
namespace Go.Proofs.Ythapabjlhooglaa
theorem zq0 : type_of% @List.getElem_toArray := @List.getElem_toArray
theorem zq1 : type_of% @List.getElem_cons_zero := @List.getElem_cons_zero
theorem zq2 : type_of% @List.getElem_cons_succ := @List.getElem_cons_succ
theorem zq3 : type_of% @List.setIfInBounds_toArray := @List.setIfInBounds_toArray
theorem zq4 : type_of% @List.set_cons_zero := @List.set_cons_zero
theorem zq5 : type_of% @List.set_cons_succ := @List.set_cons_succ
open Go.RowKit
theorem Lib.hid {p : Prop} (h : p) : Hid p:=h
def Rd (w : World) (A : Option Addr) (xs : List Value) : Prop:=
 xs = [] ∨ ∃ b off,A = some ⟨b,off,none⟩ ∧ ∀ j,j < xs.length → w.cell? ⟨b,off + j,none⟩ = xs[j]?
def byteV (b : UInt8) : Value:=.int .u8 (b.toNat : Int)
def Bs (w : World) (A : Option Addr) (n : Nat) (bs : List UInt8) : Prop:=bs.length = n ∧ Rd w A (bs.map byteV)
theorem Rd.keep {w w' : World} {A : Option Addr} {xs : List Value} (h : Rd w A xs) (hk : ∀ p : Addr,p.block < w.heap.size → w'.cell? p = w.cell? p) : Rd w' A xs:=by
 rcases h with h | ⟨b,off,hA,hc⟩
 · exact .inl h
 · refine .inr ⟨b,off,hA,fun j hj=>?_⟩
   have h1:=hc j hj
   rw [← h1]
   apply hk
   rw [List.getElem?_eq_getElem hj] at h1
   exact block_lt_of_cell h1
theorem Rd.below {w w' : World} {A : Option Addr} {xs : List Value} (h : Rd w A xs) (hb : Below w.heap.size w w') : Rd w' A xs:=h.keep fun _ hp=>hb.cell hp
theorem Rd.alloc {w : World} {A : Option Addr} {xs : List Value} (h : Rd w A xs) (o : Obj) : Rd (w.alloc o) A xs:=h.below ((Below.refl _ _).alloc (Nat.le_refl _) _)
theorem Bs.below {w w' : World} {A : Option Addr} {n : Nat} {bs : List UInt8} (h : Bs w A n bs) (hb : Below w.heap.size w w') : Bs w' A n bs:=⟨h.1,h.2.below hb⟩
theorem Bs.alloc {w : World} {A : Option Addr} {n : Nat} {bs : List UInt8} (h : Bs w A n bs) (o : Obj) : Bs (w.alloc o) A n bs:=⟨h.1,h.2.alloc o⟩
theorem Bs.nil (w : World) (A : Option Addr) : Bs w A 0 []:=⟨rfl,.inl rfl⟩
theorem add_plain (b off j : Nat) : (⟨b,off,none⟩ : Addr).add j = ⟨b,off + j,none⟩:=by unfold Addr.add;split <;> simp_all
section
variable {P : Program} (w : World)
theorem run_append_nought (base : Nat) (t ty e : TypeId) (i : TypeInfo) (size : Nat) (ht : P.underlying t = some (.slice e)) (hi : P.info? e = some i)
 (v : Value) (n : Nat) (xs : List Value) (hown : w.ownsRow base e size v n xs) (c : Nat) : (Builtin.append_ #[t,t] ty #[v,.slice none 0 c]).run P w = .ok v w:=by
 rcases hown.2 with ⟨rfl,rfl⟩ | ⟨g,cap,cur,rfl,_,_,hnc,_⟩
 · simp [Builtin.append_,run_underlying ht,sizeOf,typeInfo,hi,Builtin.lenOf,Builtin.firstCells]
 · simp [Builtin.append_,run_underlying ht,sizeOf,typeInfo,hi,Builtin.lenOf,Builtin.firstCells,hnc,storeCells]
theorem run_append_rd (base : Nat) (t ty e : TypeId) (i : TypeInfo) (z : Value) (size bytes : Nat) (ht : P.underlying t = some (.slice e)) (hi : P.info? e = some i) (hz : i.zero = some z)
 (hsize : i.size = size) (hby : i.bytes = bytes) (hzs : z.cells.size = size) (hsz : 0 < size)
 (v : Value) (n : Nat) (xs : List Value) (hown : w.ownsRow base e size v n xs)
 (A : Option Addr) (m c : Nat) (news : List Value) (hl : news.length = m * size) (hr : Rd w A news) (h1 : ∀ u ∈ news,u.oneCell' = true)
 (h63 : n + m ≤ maxLen) (hbytes : (n + m) * bytes ≤ 140737488355328) (hbase : base ≤ w.heap.size) :
 ∃ v' w',(Builtin.append_ #[t,t] ty #[v,.slice A m c]).run P w = .ok v' w' ∧ w'.ownsRow base e size v' (n + m) (xs ++ news) ∧ w.grownBy w' v.ownBlock ∧
  (v'.ownBlock = v.ownBlock ∨ v'.ownBlock = some w.heap.size):=by
 have none_case : ∀ A : Option Addr,m = 0 → A = none → ∃ v' w',(Builtin.append_ #[t,t] ty #[v,.slice A m c]).run P w = .ok v' w' ∧ w'.ownsRow base e size v' (n + m) (xs ++ news) ∧ w.grownBy w' v.ownBlock ∧
  (v'.ownBlock = v.ownBlock ∨ v'.ownBlock = some w.heap.size):=by
  intro A hm hA
  subst hm hA
  have hn : news = []:=List.eq_nil_of_length_eq_zero (by simpa using hl)
  subst hn
  exact ⟨v,w,run_append_nought w base t ty e i size ht hi v n xs hown c,by simpa using hown,World.grownBy.refl w _,.inl rfl⟩
 rcases A with _ | ad
 · rcases hr with h | ⟨b,off,h,_⟩
   · subst h
     have hm : m = 0:=by
      rcases Nat.eq_zero_or_pos m with h0 | h0
      · exact h0
      · have:=Nat.mul_pos h0 hsz
        simp at hl
        omega
     exact none_case none hm rfl
   · cases h
 · have hcells : ∀ j u,news[j]? = some u → w.cell? (ad.add j) = some u:=by
    intro j u hu
    rcases hr with h | ⟨b,off,h,hc⟩
    · subst h;simp at hu
    · injection h with h
      subst h
      have hj : j < news.length:=(List.getElem?_eq_some_iff.1 hu).1
      rw [add_plain,hc j hj,hu]
   obtain ⟨v',w',hrun,h2,h3,_,h5⟩:=run_append_own_at (P:=P) w base t ty e i z size bytes ht hi hz hsize hby hzs hsz v n xs hown ad m c news hl hcells h1 h63 hbytes hbase
   exact ⟨v',w',hrun,h2,h3,h5⟩
theorem wp_append_rd {o : Oper} {a : Act} {K : Act → World → Prop} {Q : Exit → Act → World → Prop} (s x : Operand) (t : TypeId)
 (ho : o.op = .call { callee:=.builtin .append,args:=#[s,x],argTypes:=#[t,t] })
 (base : Nat) (e : TypeId) (i : TypeInfo) (z : Value) (size bytes : Nat) (ht : P.underlying t = some (.slice e)) (hi : P.info? e = some i) (hz : i.zero = some z)
 (hsize : i.size = size) (hby : i.bytes = bytes) (hzs : z.cells.size = size) (hsz : 0 < size)
 (v : Value) (n : Nat) (xs : List Value) (hs : a.eval s = v) (hown : w.ownsRow base e size v n xs)
 (A : Option Addr) (m c : Nat) (news : List Value) (hx : a.eval x = .slice A m c) (hl : news.length = m * size) (hr : Rd w A news) (h1 : ∀ u ∈ news,u.oneCell' = true)
 (h63 : n + m ≤ maxLen) (hbytes : (n + m) * bytes ≤ 140737488355328) (hbase : base ≤ w.heap.size)
 (h : ∀ v' w',w'.ownsRow base e size v' (n + m) (xs ++ news) → w.grownBy w' v.ownBlock → (v'.ownBlock = v.ownBlock ∨ v'.ownBlock = some w.heap.size) → K (a.put o.dst v') w') : o.wp P a w K Q:=by
 obtain ⟨v',w',hrun,h2,h3,h4⟩:=run_append_rd (P:=P) w base t o.type e i z size bytes ht hi hz hsize hby hzs hsz v n xs hown A m c news hl hr h1 h63 hbytes hbase
 unfold Oper.wp execOp
 simp only [ho,resolve,invoke,builtin,Sem.run_bind,Sem.run_pure,Result.andThen_ok,List.map_toArray,List.map_cons,List.map_nil,hs,hx,hrun]
 exact h v' w' h2 h3 h4
theorem wpList_append_rd {ops : Array Oper} {rest : List Oper} {o : Oper} {a : Act} {Q : Exit → Act → World → Prop} (hgd : o.guard = none) (s x : Operand) (t : TypeId)
 (ho : o.op = .call { callee:=.builtin .append,args:=#[s,x],argTypes:=#[t,t] })
 (base : Nat) (e : TypeId) (i : TypeInfo) (z : Value) (size bytes : Nat) (ht : P.underlying t = some (.slice e)) (hi : P.info? e = some i) (hz : i.zero = some z)
 (hsize : i.size = size) (hby : i.bytes = bytes) (hzs : z.cells.size = size) (hsz : 0 < size)
 (v : Value) (n : Nat) (xs : List Value) (hs : a.eval s = v) (hown : w.ownsRow base e size v n xs)
 (A : Option Addr) (m c : Nat) (news : List Value) (hx : a.eval x = .slice A m c) (hl : news.length = m * size) (hr : Rd w A news) (h1 : ∀ u ∈ news,u.oneCell' = true)
 (h63 : n + m ≤ maxLen) (hbytes : (n + m) * bytes ≤ 140737488355328) (hbase : base ≤ w.heap.size)
 (h : ∀ v' w',w'.ownsRow base e size v' (n + m) (xs ++ news) → w.grownBy w' v.ownBlock → (v'.ownBlock = v.ownBlock ∨ v'.ownBlock = some w.heap.size) → wpList P ops Q rest (a.put o.dst v') w') : wpList P ops Q (o :: rest) a w:=
 wpList_plain hgd fun _ hK=>wp_append_rd w s x t ho base e i z size bytes ht hi hz hsize hby hzs hsz v n xs hs hown A m c news hx hl hr h1 h63 hbytes hbase fun v' w' h2 h3 h4=>hK _ _ (h v' w' h2 h3 h4)
end
theorem own_rd {w : World} {base : Nat} {e : TypeId} {size n : Nat} {v : Value} {xs : List Value} (h : w.ownsRow base e size v n xs) : ∃ A c,v = .slice A n c ∧ n ≤ c ∧ Rd w A xs:=by
 rcases h.2 with ⟨rfl,rfl⟩ | ⟨g,cap,cur,rfl,_,hg,hnc,_,_,htake⟩
 · have : xs = []:=List.eq_nil_of_length_eq_zero (by simpa using h.1)
   subst this
   exact ⟨none,0,rfl,Nat.le_refl _,.inl rfl⟩
 · refine ⟨_,_,rfl,hnc,.inr ⟨g,0,rfl,fun j hj=>?_⟩⟩
   rw [Nat.zero_add,cell_of_row w g j cur e (0,0) hg,← htake]
   rw [List.getElem?_take,if_pos (by rw [← h.1];exact hj)]
   simp
theorem Bs.of_own {w : World} {base : Nat} {e : TypeId} {n : Nat} {v : Value} {bs : List UInt8} (h : w.ownsRow base e 1 v n (bs.map byteV)) : ∃ A c,v = .slice A n c ∧ n ≤ c ∧ Bs w A n bs:=by
 obtain ⟨A,c,rfl,hnc,hr⟩:=own_rd h
 exact ⟨A,c,rfl,hnc,by have:=h.1;simpa using this,hr⟩
theorem Bs.of_ownS {w : World} {base : Nat} {e : TypeId} {n g c : Nat} {bs : List UInt8} (h : w.ownsRow base e 1 (.slice (some ⟨g,0,none⟩) n c) n (bs.map byteV)) : Bs w (some ⟨g,0,none⟩) n bs:=by
 obtain ⟨A,c',hv,_,hb⟩:=Bs.of_own h
 simp only [Value.slice.injEq] at hv
 rw [hv.1]
 exact hb
theorem byteV_one (bs : List UInt8) : ∀ u ∈ bs.map byteV,u.oneCell' = true:=by
 intro u hu
 simp only [List.mem_map] at hu
 obtain ⟨b,_,rfl⟩:=hu
 rfl
theorem Bs.new (w : World) (C : Array Value) (t : TypeId) (fr : Nat × Nat) (n : Nat) (bs : List UInt8) (hn : bs.length = n) (hC : C.toList.take n = bs.map byteV) :
 Bs (w.alloc (.cells C t fr)) (some ⟨w.heap.size,0,none⟩) n bs:=by
 refine ⟨hn,.inr ⟨w.heap.size,0,rfl,fun j hj=>?_⟩⟩
 rw [Nat.zero_add,World.cell?_alloc_mark,← hC,List.getElem?_take,if_pos (by rw [← hn];simpa using hj)]
 simp
theorem run_string_bs {P : Program} {w : World} {A : Option Addr} {n : Nat} {bs : List UInt8} (c : Nat) (src dst e : TypeId) (hs : P.underlying src = some (.slice e)) (he : P.underlying e = some (.int .u8)) (hd : P.underlying dst = some .string)
 (hb : Bs w A n bs) : (convert src dst (.slice A n c)).run P w = .ok (.string ⟨bs.toArray⟩) w:=by
 obtain ⟨hl,hr⟩:=hb
 subst hl
 by_cases h0 : bs = []
 · subst h0
   rw [run_convert_bytes_string w src dst e A _ c hs he hd]
   cases A with
   | none=>rfl
   | some a=>rfl
 · rcases hr with h | ⟨b,off,rfl,hc⟩
   · simp at h
     exact absurd h h0
   · exact run_convert_bytes_back w src dst e _ c bs hs he hd (fun j hj=>by
      rw [add_plain,hc j (by simpa using hj)]
      simp [byteV,hj])
theorem Ext.trans {a b c : World} (h : Below a.heap.size a b) (k : Below b.heap.size b c) : Below a.heap.size a c:=h.trans (k.mono h.size)
theorem Ext.alloc {a b : World} (h : Below a.heap.size a b) (o : Obj) : Below a.heap.size a (b.alloc o):=Below.alloc h h.size o
theorem Ext.drew {a b : World} (h : Below a.heap.size a b) : Below a.heap.size a b.drew:=Below.drew h
theorem Ext.grown {a b c : World} {row : Option Nat} (h : Below a.heap.size a b) (hg : b.grownBy c row) (hr : ∀ k,row = some k → a.heap.size ≤ k) : Below a.heap.size a c:=Below.grown h hg h.size hr
end Go.Proofs.Ythapabjlhooglaa
namespace Go.Proofs.Ythapabjlhooglaa
open Go.RowKit Go.ChangeShapes Go.WideShapes
inductive Ty where
 | byte
 | u32
 | int
 | bool
 | sl (e : Ty)
 | unit
 | prod (a b : Ty)
 | st (p : Ty)
 | arr (n : Nat) (e : Ty)
namespace Ty
def size : Ty → Nat
 | byte | u32 | int | bool | sl _=>1
 | unit=>0
 | prod a b=>a.size + b.size
 | st p=>p.size
 | arr n e=>n * e.size
def T : Ty → Type
 | byte=>UInt8
 | u32=>Nat
 | int=>Int
 | bool=>Bool
 | sl e=>List e.T
 | unit=>Unit
 | prod a b=>a.T × b.T
 | st p=>p.T
 | arr _ e=>List e.T
end Ty
abbrev IsInt (n : Int) : Prop:=-9223372036854775808 ≤ n ∧ n ≤ 9223372036854775807
def Reads (w : World) : (t : Ty) → t.T → List Value → Prop
 | .byte,x,cs=>cs = [byteV x]
 | .u32,n,cs=>cs = [.int .u32 ((show Nat from n : Nat) : Int)] ∧ (show Nat from n) < 2 ^ 32
 | .int,n,cs=>cs = [.int .i64 (show Int from n)] ∧ IsInt n
 | .bool,b,cs=>cs = [.bool b]
 | .sl e,xs,cs=>∃ A c,cs = [.slice A (show List e.T from xs).length c] ∧ (show List e.T from xs).length ≤ c ∧ c ≤ maxLen ∧
    ((show List e.T from xs) = [] ∨ ∃ b off,A = some ⟨b,off,none⟩ ∧ ∀ i (hi : i < (show List e.T from xs).length),∃ es : List Value,
      (∀ j,j < e.size → w.cell? ⟨b,off + i * e.size + j,none⟩ = es[j]?) ∧ Reads w e ((show List e.T from xs)[i]) es)
 | .unit,_,cs=>cs = []
 | .prod a b,x,cs=>∃ c1 c2,cs = c1 ++ c2 ∧ Reads w a (show a.T × b.T from x).1 c1 ∧ Reads w b (show a.T × b.T from x).2 c2
 | .st p,x,cs=>Reads w p x cs
 | .arr n e,xs,cs=>(show List e.T from xs).length = n ∧ cs.length = n * e.size ∧ ∀ i (hi : i < (show List e.T from xs).length),Reads w e ((show List e.T from xs)[i]) ((cs.drop (i * e.size)).take e.size)
section
variable {w : World} {cs : List Value}
end
theorem Reads.len {w : World} : {t : Ty} → {x : t.T} → {cs : List Value} → Reads w t x cs → cs.length = t.size
 | .byte,_,_,h=>by unfold Reads at h;subst h;rfl
 | .u32,_,_,h=>by unfold Reads at h;obtain ⟨rfl,_⟩:=h;rfl
 | .int,_,_,h=>by unfold Reads at h;obtain ⟨rfl,_⟩:=h;rfl
 | .bool,_,_,h=>by unfold Reads at h;subst h;rfl
 | .sl _,_,_,h=>by unfold Reads at h;obtain ⟨_,_,rfl,_⟩:=h;rfl
 | .unit,_,_,h=>by unfold Reads at h;subst h;rfl
 | .prod a b,_,_,h=>by
   unfold Reads at h
   obtain ⟨c1,c2,rfl,h1,h2⟩:=h
   rw [List.length_append,h1.len,h2.len]
   rfl
 | .st p,_,_,h=>by unfold Reads at h;exact h.len (t:=p)
 | .arr n e,_,_,h=>by unfold Reads at h;exact h.2.1
theorem Reads.keep {w w' : World} (hk : ∀ (p : Addr) (v : Value),w.cell? p = some v → w'.cell? p = some v) : {t : Ty} → {x : t.T} → {cs : List Value} → Reads w t x cs → Reads w' t x cs
 | .byte,_,_,h=>by unfold Reads at h ⊢;exact h
 | .u32,_,_,h=>by unfold Reads at h ⊢;exact h
 | .int,_,_,h=>by unfold Reads at h ⊢;exact h
 | .bool,_,_,h=>by unfold Reads at h ⊢;exact h
 | .sl e,xs,_,h=>by
   unfold Reads at h ⊢
   obtain ⟨A,c,hcs,hn,hm,h⟩:=h
   refine ⟨A,c,hcs,hn,hm,?_⟩
   rcases h with h | ⟨b,off,hA,h⟩
   · exact .inl h
   · refine .inr ⟨b,off,hA,fun i hi=>?_⟩
     obtain ⟨es,hc,hr⟩:=h i hi
     have hl:=hr.len
     refine ⟨es,fun j hj=>?_,hr.keep hk⟩
     have:=hc j hj
     rw [List.getElem?_eq_getElem (by omega)] at this ⊢
     exact hk _ _ this
 | .unit,_,_,h=>by unfold Reads at h ⊢;exact h
 | .prod a b,_,_,h=>by
   unfold Reads at h ⊢
   obtain ⟨c1,c2,rfl,h1,h2⟩:=h
   exact ⟨c1,c2,rfl,h1.keep hk,h2.keep hk⟩
 | .st p,_,_,h=>by unfold Reads at h ⊢;exact h.keep (t:=p) hk
 | .arr n e,_,_,h=>by
   unfold Reads at h ⊢
   exact ⟨h.1,h.2.1,fun i hi=>(h.2.2 i hi).keep hk⟩
theorem Reads.below {w w' : World} {t : Ty} {x : t.T} {cs : List Value} (h : Reads w t x cs) (hb : Below w.heap.size w w') : Reads w' t x cs:=
 h.keep fun p v hv=>by rw [hb.cell (block_lt_of_cell hv)];exact hv
namespace Ty
def isField : Ty → Bool
 | unit | prod _ _=>true
 | _=>false
def fits (P : Program) : Ty → TypeId → List Field → Nat → Bool
 | byte,t,_,_=>match P.underlying t with | some (.int .u8)=>true | _=>false
 | u32,t,_,_=>match P.underlying t with | some (.int .u32)=>true | _=>false
 | int,t,_,_=>match P.underlying t with | some (.int .i64)=>true | _=>false
 | bool,t,_,_=>match P.underlying t with | some .bool=>true | _=>false
 | sl e,t,_,_=>match P.underlying t with | some (.slice e')=>e.fits P e' [] 0 && (P.cellsOf e' == e.size) && !e.isField && e.size != 0 | _=>false
 | unit,_,fs,_=>fs.isEmpty
 | prod a b,t,fs,off=>match fs with | f :: fs=>(f.offset == off) && (P.cellsOf f.type == a.size) && a.fits P f.type [] 0 && !a.isField && b.isField && b.fits P t fs (off + a.size) | []=>false
 | st p,t,_,_=>match P.underlying t with | some (.struct fs)=>p.fits P t fs.toList 0 && (P.cellsOf t == p.size) && p.isField | _=>false
 | arr n e,t,_,_=>match P.underlying t with | some (.array m e')=>(m == n) && e.fits P e' [] 0 && (P.cellsOf e' == e.size) && (P.cellsOf t == n * e.size) && !e.isField | _=>false
end Ty
theorem choose_list {α : Type} {R : Nat → α → Prop} : (n : Nat) → (∀ i,i < n → ∃ x,R i x) → ∃ l : List α,l.length = n ∧ ∀ i (hi : i < l.length),R i l[i]
 | 0,_=>⟨[],rfl,fun i hi=>absurd hi (by simp)⟩
 | n + 1,h=>by
   obtain ⟨l,hl,hr⟩:=choose_list n (fun i hi=>h i (by omega))
   obtain ⟨x,hx⟩:=h n (by omega)
   refine ⟨l ++ [x],by simp [hl],fun i hi=>?_⟩
   rw [List.getElem_append]
   split
   · exact hr i _
   · have : i = n:=by simp at hi;omega
     subst this
     simpa using hx
section
variable {H : Type} {enc : TypeId × Value → H} {P : Program} {w : World} {base : Nat} {spare : Nat → Bool} {held : Bool}
theorem addr_of_cell {a : Addr} {j : Nat} {v : Value} (h : w.cell? (a.add j) = some v) : (a.add j) = ⟨a.block,a.off + j,none⟩:=by
 have hs:=World.cell?_spot h
 unfold Addr.add at hs ⊢
 split
 · rename_i h0
   subst h0
   simp at hs
   cases a
   simp_all
 · rfl
theorem wf_u8_byte {n : Int} (h : (Lit.int .u8 n).wf = true) : ∃ x : UInt8,Value.int .u8 n = byteV x:=by
 have hb:=bounds_u8 h
 refine ⟨UInt8.ofNat n.toNat,?_⟩
 unfold byteV
 congr 1
 simp
 omega
end
def aggType (P : Program) (t : TypeId) : Bool:=match P.underlying t with | some (.struct _) | some (.array _ _)=>true | _=>false
theorem val_agg {P : Program} {w : World} {r : Reach} {b : Nat} {t : TypeId} {v : Value} (ht : aggType P t = true) (h : Value.okWide P w r b t v) : v = .agg v.cells.toList.toArray:=by
 unfold aggType at ht
 unfold Value.okWide at h
 split at ht
 · rename_i hu
   rw [hu] at h
   obtain ⟨cs,rfl,_⟩:=h
   simp [Value.cells]
 · rename_i hu
   rw [hu] at h
   obtain ⟨cs,rfl,_⟩:=h
   simp [Value.cells]
 · cases ht
theorem cells_plain {P : Program} {w : World} {r : Reach} {b : Nat} {t : TypeId} {v : Value} (hi : (match P.underlying t with | some (.int _) | some .bool | some (.slice _)=>true | _=>false) = true) (h : Value.okWide P w r b t v) : v.cells.toList = [v]:=by
 split at hi
 · rename_i hu
   obtain ⟨n,rfl⟩:=okWide_int hu h
   rfl
 · rename_i hu
   obtain ⟨n,rfl⟩:=okWide_bool hu h
   rfl
 · rename_i hu
   obtain ⟨a,l,c,rfl⟩:=okWide_slice hu h
   rfl
 · cases hi
section
variable {w : World} {v : Value}
end
end Go.Proofs.Ythapabjlhooglaa
namespace Go.Proofs.Ythapabjlhooglaa
open Go.RowKit Go.ChangeShapes Go.WideShapes
namespace Ty
def align : Ty → Nat
 | byte | bool | unit=>1
 | u32=>4
 | int | sl _=>8
 | prod a _=>a.align
 | st p=>p.align
 | arr _ e=>e.align
def up (n a : Nat) : Nat:=(n + a - 1) / a * a
def bytes : Ty → Nat
 | byte | bool=>1
 | u32=>4
 | int=>8
 | sl _=>24
 | unit=>0
 | prod a b=>up a.bytes b.align + b.bytes
 | st p=>p.bytes
 | arr n e=>n * e.bytes
def heavy (P : Program) : Ty → TypeId → List Field → Bool
 | sl e,t,_=>match P.underlying t with | some (.slice e')=>decide (e.bytes ≤ P.bytesOf e') && e.heavy P e' [] | _=>false
 | prod a b,t,fs=>match fs with | f :: fs=>a.heavy P f.type [] && b.heavy P t fs | []=>false
 | st p,t,_=>match P.underlying t with | some (.struct fs)=>p.heavy P t fs.toList | _=>false
 | arr _ e,t,_=>match P.underlying t with | some (.array _ e')=>e.heavy P e' [] | _=>false
 | _,_,_=>true
end Ty
def RdIn (w : World) (S : Nat → Prop) : (t : Ty) → t.T → List Value → Prop
 | .byte,x,cs=>cs = [byteV x]
 | .u32,n,cs=>cs = [.int .u32 ((show Nat from n : Nat) : Int)] ∧ (show Nat from n) < 2 ^ 32
 | .int,n,cs=>cs = [.int .i64 (show Int from n)] ∧ IsInt n
 | .bool,b,cs=>cs = [.bool b]
 | .sl e,xs,cs=>∃ A c,cs = [.slice A (show List e.T from xs).length c] ∧ (show List e.T from xs).length ≤ c ∧ c ≤ maxLen ∧ (show List e.T from xs).length * e.bytes ≤ 140737488355328 ∧
    ((show List e.T from xs) = [] ∨ ∃ b off,A = some ⟨b,off,none⟩ ∧ S b ∧ ∀ i (hi : i < (show List e.T from xs).length),∃ es : List Value,
      (∀ j,j < e.size → w.cell? ⟨b,off + i * e.size + j,none⟩ = es[j]?) ∧ RdIn w S e ((show List e.T from xs)[i]) es)
 | .unit,_,cs=>cs = []
 | .prod a b,x,cs=>∃ c1 c2,cs = c1 ++ c2 ∧ RdIn w S a (show a.T × b.T from x).1 c1 ∧ RdIn w S b (show a.T × b.T from x).2 c2
 | .st p,x,cs=>RdIn w S p x cs
 | .arr n e,xs,cs=>(show List e.T from xs).length = n ∧ cs.length = n * e.size ∧ ∀ i (hi : i < (show List e.T from xs).length),RdIn w S e ((show List e.T from xs)[i]) ((cs.drop (i * e.size)).take e.size)
section
variable {w : World} {S : Nat → Prop} {cs : List Value}
theorem rdin_byte {x : UInt8} : RdIn w S .byte x cs ↔ cs = [byteV x]:=Iff.rfl
theorem rdin_u32 {n : Nat} : RdIn w S .u32 n cs ↔ cs = [.int .u32 (n : Int)] ∧ n < 2 ^ 32:=Iff.rfl
theorem rdin_int {n : Int} : RdIn w S .int n cs ↔ cs = [.int .i64 n] ∧ IsInt n:=Iff.rfl
theorem rdin_bool {b : Bool} : RdIn w S .bool b cs ↔ cs = [.bool b]:=Iff.rfl
theorem rdin_sl {e : Ty} {xs : List e.T} : RdIn w S (.sl e) xs cs ↔ ∃ A c,cs = [.slice A xs.length c] ∧ xs.length ≤ c ∧ c ≤ maxLen ∧ xs.length * e.bytes ≤ 140737488355328 ∧
 (xs = [] ∨ ∃ b off,A = some ⟨b,off,none⟩ ∧ S b ∧ ∀ i (hi : i < xs.length),∃ es : List Value,
   (∀ j,j < e.size → w.cell? ⟨b,off + i * e.size + j,none⟩ = es[j]?) ∧ RdIn w S e xs[i] es):=Iff.rfl
theorem rdin_unit {x : Unit} : RdIn w S .unit x cs ↔ cs = []:=Iff.rfl
theorem rdin_prod {a b : Ty} {x : a.T} {y : b.T} : RdIn w S (.prod a b) (x,y) cs ↔ ∃ c1 c2,cs = c1 ++ c2 ∧ RdIn w S a x c1 ∧ RdIn w S b y c2:=Iff.rfl
theorem rdin_st {p : Ty} {x : p.T} : RdIn w S (.st p) x cs ↔ RdIn w S p x cs:=Iff.rfl
theorem rdin_arr {n : Nat} {e : Ty} {xs : List e.T} : RdIn w S (.arr n e) xs cs ↔ xs.length = n ∧ cs.length = n * e.size ∧ ∀ i (hi : i < xs.length),RdIn w S e xs[i] ((cs.drop (i * e.size)).take e.size):=Iff.rfl
end
theorem RdIn.len {w : World} {S : Nat → Prop} : {t : Ty} → {x : t.T} → {cs : List Value} → RdIn w S t x cs → cs.length = t.size
 | .byte,_,_,h=>by unfold RdIn at h;subst h;rfl
 | .u32,_,_,h=>by unfold RdIn at h;obtain ⟨rfl,_⟩:=h;rfl
 | .int,_,_,h=>by unfold RdIn at h;obtain ⟨rfl,_⟩:=h;rfl
 | .bool,_,_,h=>by unfold RdIn at h;subst h;rfl
 | .sl _,_,_,h=>by unfold RdIn at h;obtain ⟨_,_,rfl,_⟩:=h;rfl
 | .unit,_,_,h=>by unfold RdIn at h;subst h;rfl
 | .prod a b,_,_,h=>by
   unfold RdIn at h
   obtain ⟨c1,c2,rfl,h1,h2⟩:=h
   rw [List.length_append,h1.len,h2.len]
   rfl
 | .st p,_,_,h=>by unfold RdIn at h;exact h.len (t:=p)
 | .arr n e,_,_,h=>by unfold RdIn at h;exact h.2.1
theorem RdIn.keep {w w' : World} {S S' : Nat → Prop} (hk : ∀ (p : Addr) (v : Value),S p.block → w.cell? p = some v → w'.cell? p = some v ∧ S' p.block) (hS : ∀ b,S b → S' b) : {t : Ty} → {x : t.T} → {cs : List Value} → RdIn w S t x cs → RdIn w' S' t x cs
 | .byte,_,_,h=>by unfold RdIn at h ⊢;exact h
 | .u32,_,_,h=>by unfold RdIn at h ⊢;exact h
 | .int,_,_,h=>by unfold RdIn at h ⊢;exact h
 | .bool,_,_,h=>by unfold RdIn at h ⊢;exact h
 | .sl e,xs,_,h=>by
   unfold RdIn at h ⊢
   obtain ⟨A,c,hcs,hn,hm,hz,h⟩:=h
   refine ⟨A,c,hcs,hn,hm,hz,?_⟩
   rcases h with h | ⟨b,off,hA,hb,h⟩
   · exact .inl h
   · refine .inr ⟨b,off,hA,hS b hb,fun i hi=>?_⟩
     obtain ⟨es,hc,hr⟩:=h i hi
     have hl:=hr.len
     refine ⟨es,fun j hj=>?_,hr.keep hk hS⟩
     have:=hc j hj
     rw [List.getElem?_eq_getElem (by omega)] at this ⊢
     exact (hk _ _ hb this).1
 | .unit,_,_,h=>by unfold RdIn at h ⊢;exact h
 | .prod a b,_,_,h=>by
   unfold RdIn at h ⊢
   obtain ⟨c1,c2,rfl,h1,h2⟩:=h
   exact ⟨c1,c2,rfl,h1.keep hk hS,h2.keep hk hS⟩
 | .st p,_,_,h=>by unfold RdIn at h ⊢;exact h.keep (t:=p) hk hS
 | .arr n e,_,_,h=>by
   unfold RdIn at h ⊢
   exact ⟨h.1,h.2.1,fun i hi=>(h.2.2 i hi).keep hk hS⟩
theorem RdIn.mono {w : World} {S S' : Nat → Prop} (hS : ∀ b,S b → S' b) {t : Ty} {x : t.T} {cs : List Value} (h : RdIn w S t x cs) : RdIn w S' t x cs:=h.keep (fun _ _ hs hv=>⟨hv,hS _ hs⟩) hS
theorem RdIn.below {w w' : World} {S : Nat → Prop} {t : Ty} {x : t.T} {cs : List Value} (h : RdIn w S t x cs) (hb : Below w.heap.size w w') : RdIn w' S t x cs:=
 h.keep (fun p v hs hv=>⟨by rw [hb.cell (block_lt_of_cell hv)];exact hv,hs⟩) (fun _ h=>h)
theorem RdIn.apart {w w' : World} {S : Nat → Prop} {g : Nat} {t : Ty} {x : t.T} {cs : List Value} (h : RdIn w S t x cs) (hS : ∀ b,S b → b ≠ g) (hk : ∀ p : Addr,p.block ≠ g → p.block < w.heap.size → w'.cell? p = w.cell? p) : RdIn w' S t x cs:=
 h.keep (fun p v hs hv=>⟨by rw [hk p (hS _ hs) (block_lt_of_cell hv)];exact hv,hs⟩) (fun _ h=>h)
section
variable {H : Type} {enc : TypeId × Value → H} {P : Program} {w : World} {base : Nat} {spare : Nat → Bool} {held : Bool}
theorem weightsAll_mem {P : Program} {e : TypeId} : ∀ {ds : List (DataW H)} {i : Nat} {d : DataW H},ds[i]? = some d → ∀ n ∈ d.weights P e,n ∈ DataW.weightsAll P e ds
 | d0 :: ds,0,d,hd,n,hn=>by
   simp only [List.getElem?_cons_zero,Option.some.injEq] at hd
   subst hd
   simp only [DataW.weightsAll,List.mem_append]
   exact .inl hn
 | d0 :: ds,i + 1,d,hd,n,hn=>by
   simp only [List.getElem?_cons_succ] at hd
   simp only [DataW.weightsAll,List.mem_append]
   exact .inr (weightsAll_mem hd n hn)
 | [],_,_,hd,_,_=>by simp at hd
theorem deep_of_trod : (t : Ty) →
 (t.isField = false → ∀ (tid : TypeId) (fuel : Nat) (cs : List Value) (y : DataW H × List MemPlace),t.fits P tid [] 0 = true → t.heavy P tid [] = true → DataW.trod enc P w base spare held fuel tid cs = some y → (∀ n ∈ y.1.weights P tid,n ≤ reachBytes) → ∃ x : t.T,RdIn w (fun b=>b < w.heap.size) t x cs) ∧
 (t.isField = true → ∀ (tid : TypeId) (fs : List Field) (off n : Nat) (cs : List Value),t.fits P tid fs off = true → t.heavy P tid fs = true →
   (∀ f ∈ fs,∃ y,DataW.trod enc P w base spare held n f.type ((cs.drop f.offset).take (P.cellsOf f.type)) = some y ∧ ∀ n ∈ y.1.weights P f.type,n ≤ reachBytes) → cs.length = off + t.size → ∃ x : t.T,RdIn w (fun b=>b < w.heap.size) t x (cs.drop off))
 | .byte=>by
   refine ⟨fun _ tid fuel cs y hf _ h _=>?_,fun h=>by cases h⟩
   unfold Ty.fits at hf
   split at hf
   · rename_i hu
     obtain ⟨n,rfl,_,hw⟩:=DataW.trod_int hu h
     obtain ⟨x,hx⟩:=wf_u8_byte hw
     exact ⟨x,rdin_byte.2 (by rw [hx])⟩
   · cases hf
 | .u32=>by
   refine ⟨fun _ tid fuel cs y hf _ h _=>?_,fun h=>by cases h⟩
   unfold Ty.fits at hf
   split at hf
   · rename_i hu
     obtain ⟨n,rfl,_,hw⟩:=DataW.trod_int hu h
     have hb:=bounds_u32 hw
     refine ⟨n.toNat,rdin_u32.2 ⟨?_,by omega⟩⟩
     rw [show ((n.toNat : Nat) : Int) = n by omega]
   · cases hf
 | .int=>by
   refine ⟨fun _ tid fuel cs y hf _ h _=>?_,fun h=>by cases h⟩
   unfold Ty.fits at hf
   split at hf
   · rename_i hu
     obtain ⟨n,rfl,_,hw⟩:=DataW.trod_int hu h
     exact ⟨n,rdin_int.2 ⟨rfl,bounds_i64 hw⟩⟩
   · cases hf
 | .bool=>by
   refine ⟨fun _ tid fuel cs y hf _ h _=>?_,fun h=>by cases h⟩
   unfold Ty.fits at hf
   split at hf
   · rename_i hu
     obtain ⟨n,rfl,_⟩:=DataW.trod_bool hu h
     exact ⟨n,rdin_bool.2 rfl⟩
   · cases hf
 | .sl e=>by
   refine ⟨fun _ tid fuel cs y hf hh h hwt=>?_,fun h=>by cases h⟩
   unfold Ty.fits at hf
   unfold Ty.heavy at hh
   split at hf
   · rename_i e' hu
     rw [hu] at hh
     simp only [Bool.and_eq_true,beq_iff_eq,Bool.not_eq_true',bne_iff_ne] at hf
     simp only [Bool.and_eq_true,decide_eq_true_eq] at hh
     obtain ⟨hz,hh⟩:=hh
     obtain ⟨⟨⟨hf,hs⟩,hne⟩,hs0⟩:=hf
     rcases DataW.trod_slice hu h with ⟨rfl,_⟩ | ⟨a,len,cap,elems,rest,n,_,rfl,rfl,hb,hl,hm,hlen,hel,_⟩
     · refine ⟨([] : List e.T),rdin_sl.2 ?_⟩
       exact ⟨none,0,rfl,by simp,by simp [maxLen],by simp,.inl rfl⟩
     · have hwl : (elems.map (·.1)).length * P.bytesOf e' ≤ reachBytes:=by
        have:=hwt (((elems.map (·.1)).length + (rest.map (·.1)).length) * P.bytesOf e') (by simp [DataW.weights,hu])
        rw [Nat.add_mul] at this
        omega
       have each : ∀ i,i < len → ∃ x : e.T,∃ es : List Value,(∀ j,j < e.size → w.cell? ⟨a.block,a.off + i * e.size + j,none⟩ = es[j]?) ∧ RdIn w (fun b=>b < w.heap.size) e x es:=by
        intro i hi
        have h1:=hel i hi
        have hil : i < elems.length:=by omega
        rw [List.getElem?_eq_getElem hil] at h1
        obtain ⟨es,hc,ht⟩:=Option.bind_eq_some_iff.1 h1
        obtain ⟨_,hcl,hcc⟩:=World.cells?_some hc
        obtain ⟨x,hx⟩:=(deep_of_trod e).1 hne _ _ _ _ hf hh ht (fun n hn=>hwt n (by
         have:=weightsAll_mem (P:=P) (e:=e') (ds:=elems.map (·.1)) (i:=i) (d:=elems[i].1) (by simp [hil]) n hn
         simp [DataW.weights,hu,this]))
        refine ⟨x,es,fun j hj=>?_,hx⟩
        rw [hs] at hcl hcc
        have h2:=hcc j hj
        rw [List.getElem?_eq_getElem (by omega)] at h2
        have h3 : (a.add (i * e.size)).add j = ⟨a.block,a.off + i * e.size + j,none⟩:=by
         have h0:=hcc 0 (by omega)
         rw [List.getElem?_eq_getElem (by omega)] at h0
         have h5:=addr_of_cell h2
         rw [h5]
         unfold Addr.add
         split
         · rename_i hz;rw [hz];simp
         · rfl
        rw [h3] at h2
        rw [h2,List.getElem?_eq_getElem (by omega)]
       obtain ⟨l,hll,hlr⟩:=choose_list len each
       have hlb : l.length * e.bytes ≤ 140737488355328:=by
        have h1 : l.length * e.bytes ≤ (elems.map (·.1)).length * P.bytesOf e':=by
         rw [hll,List.length_map,hlen]
         exact Nat.mul_le_mul_left _ hz
        have h2 : reachBytes ≤ 140737488355328:=by decide
        omega
       refine ⟨l,rdin_sl.2 ?_⟩
       refine ⟨some a,cap,by rw [hll],by rw [hll];exact hl,hm,hlb,?_⟩
       rcases Nat.eq_zero_or_pos len with h0 | h0
       · exact .inl (List.eq_nil_of_length_eq_zero (by omega))
       · have h1:=hel 0 h0
         rw [List.getElem?_eq_getElem (by omega)] at h1
         obtain ⟨es,hc,_⟩:=Option.bind_eq_some_iff.1 h1
         obtain ⟨_,hcl,hcc⟩:=World.cells?_some hc
         have h2:=hcc 0 (by omega)
         rw [List.getElem?_eq_getElem (by omega)] at h2
         have hsp:=World.cell?_spot h2
         have hlt:=block_lt_of_cell h2
         have e1 : (a.add (0 * P.cellsOf e')).add 0 = a:=by unfold Addr.add;simp
         rw [e1] at hsp hlt
         refine .inr ⟨a.block,a.off,?_,hlt,fun i hi=>hlr i hi⟩
         cases a
         simp_all
   · cases hf
 | .unit=>by
   refine ⟨(fun h=>by cases h),fun _ tid fs off n cs hf _ _ hlen=>⟨(),rdin_unit.2 ?_⟩⟩
   simp [Ty.size] at hlen
   exact List.drop_eq_nil_iff.2 (by omega)
 | .prod a b=>by
   refine ⟨(fun h=>by cases h),fun _ tid fs off n cs hf hh hx hlen=>?_⟩
   unfold Ty.fits at hf
   unfold Ty.heavy at hh
   split at hf
   · rename_i f fs
     simp only [Bool.and_eq_true,beq_iff_eq,Bool.not_eq_true'] at hf hh
     obtain ⟨⟨⟨⟨⟨ho,hs⟩,ha⟩,hna⟩,hnb⟩,hb⟩:=hf
     obtain ⟨y,hy,hyw⟩:=hx f (by simp)
     obtain ⟨x1,r1⟩:=(deep_of_trod a).1 hna _ _ _ _ ha hh.1 hy hyw
     have hl2 : cs.length = off + a.size + b.size:=by simp [Ty.size] at hlen;omega
     obtain ⟨x2,r2⟩:=(deep_of_trod b).2 hnb tid fs (off + a.size) n cs hb hh.2 (fun g hg=>hx g (by simp [hg])) hl2
     refine ⟨(x1,x2),rdin_prod.2 ?_⟩
     refine ⟨_,_,?_,r1,r2⟩
     rw [ho,hs,← List.drop_drop]
     exact (List.take_append_drop a.size (cs.drop off)).symm
   · cases hf
 | .st p=>by
   refine ⟨fun _ tid fuel cs y hf hh h hwt=>?_,fun h=>by cases h⟩
   unfold Ty.fits at hf
   unfold Ty.heavy at hh
   split at hf
   · rename_i fs hu
     rw [hu] at hh
     simp only [Bool.and_eq_true,beq_iff_eq] at hf
     obtain ⟨⟨hf,hs⟩,hp⟩:=hf
     obtain ⟨xs,n,_,rfl,hl,hxl,hx⟩:=DataW.trod_struct hu h
     have hx' : ∀ f ∈ fs.toList,∃ y,DataW.trod enc P w base spare held n f.type ((cs.drop f.offset).take (P.cellsOf f.type)) = some y ∧ ∀ n ∈ y.1.weights P f.type,n ≤ reachBytes:=by
      intro f hf'
      obtain ⟨i,hi,hfi⟩:=List.getElem_of_mem hf'
      have hi' : i < fs.size:=by simpa using hi
      have:=hx i f (by rw [Array.getElem?_eq_getElem hi'];congr 1)
      refine ⟨xs[i]'(by omega),by rw [this];exact List.getElem?_eq_getElem _,fun n hn=>hwt n ?_⟩
      simp only [DataW.weights,hu]
      refine DataW.weights_mem_each (j:=i) (t:=f.type) (d:=(xs[i]'(by omega)).1) ?_ ?_ n hn
      · rw [List.getElem?_map,List.getElem?_eq_getElem hi,hfi];rfl
      · rw [List.getElem?_map,List.getElem?_eq_getElem (by omega)];rfl
     obtain ⟨x,hr⟩:=(deep_of_trod p).2 hp tid fs.toList 0 n cs hf hh hx' (by omega)
     exact ⟨x,rdin_st.2 (by simpa using hr)⟩
   · cases hf
 | .arr m e=>by
   refine ⟨fun _ tid fuel cs y hf hh h hwt=>?_,fun h=>by cases h⟩
   unfold Ty.fits at hf
   unfold Ty.heavy at hh
   split at hf
   · rename_i m' e' hu
     rw [hu] at hh
     simp only [Bool.and_eq_true,beq_iff_eq,Bool.not_eq_true'] at hf
     obtain ⟨⟨⟨⟨hm,hf⟩,hs⟩,hc⟩,hne⟩:=hf
     subst hm
     obtain ⟨xs,n,_,rfl,hl,hxl,hx⟩:=DataW.trod_array hu h
     have each : ∀ i,i < m' → ∃ x : e.T,RdIn w (fun b=>b < w.heap.size) e x ((cs.drop (i * e.size)).take e.size):=by
      intro i hi
      have h1:=hx i hi
      have hil : i < xs.length:=by omega
      rw [hs,List.getElem?_eq_getElem hil] at h1
      exact (deep_of_trod e).1 hne _ _ _ _ hf hh h1 (fun n hn=>hwt n (by
       simp only [DataW.weights,hu]
       exact weightsAll_mem (P:=P) (e:=e') (ds:=xs.map (·.1)) (i:=i) (d:=xs[i].1) (by simp [hil]) n hn))
     obtain ⟨l,hll,hlr⟩:=choose_list m' each
     exact ⟨l,rdin_arr.2 ⟨hll,by omega,hlr⟩⟩
   · cases hf
theorem open_deep {t : Ty} {tid : TypeId} {v : Value} {d : DataW H} {ps : List MemPlace} (hn : t.isField = false) (hf : t.fits P tid [] 0 = true) (hh : t.heavy P tid [] = true) (h : DataW.Trod enc P w base spare held tid v d ps) (hw : ∀ n ∈ d.weights P tid,n ≤ reachBytes) :
 ∃ x : t.T,RdIn w (fun b=>b < w.heap.size) t x v.cells.toList:=by
 obtain ⟨fuel,h⟩:=h
 exact (deep_of_trod t).1 hn _ _ _ _ hf hh h hw
end
theorem rdin_single {w : World} {S : Nat → Prop} {t : Ty} {x : t.T} {v : Value} (h : RdIn w S t x v.cells.toList) (hv : v.cells.toList = [v]) : RdIn w S t x [v]:=by rw [← hv];exact h
end Go.Proofs.Ythapabjlhooglaa
namespace Go.Proofs.Ythapabjlhooglaa
open Go.RowKit
theorem i64_fit {n : Int} (h : -1000000000 ≤ n ∧ n ≤ 1000000000) : IntKind.i64.wrap n = n:=IntWalk.i64_in _ (by omega)
theorem below_drewN' {B : Nat} {w w' : World} (h : Below B w w') (q : Nat) : Below B w (w'.drewN q):=⟨h.os,h.tape,h.output,h.size,h.block⟩
theorem results_row2 {P : Program} {fn : Func} {p u : Tmp} {ty : TypeId} (h : fn.results = #[.cell p ty,.tmp u]) (tmps : Array Value) (w : World) (g : Nat) (t : TypeId) (cs : Array Value) (fr : Nat × Nat) (d : TypeDesc)
 (hp : tmps.getD p undef = .pointer (some ⟨g,0,none⟩)) (hg : w.heap[g]? = some (.cells cs t fr))
 (hu : P.underlying ty = some d) (hd : (match d with | .struct _ | .array _ _=>true | _=>false) = true) (hi : (P.info? ty).map (·.size) = some cs.size) :
 (results fn tmps).run P w = .ok (.tuple #[.agg cs,tmps.getD u undef]) w:=by
 rw [results_cell_tmp h,hp]
 simp [asAddr,run_loadVar_row w g t ty cs fr d hg hu hd hi,Result.andThen]
def BoxOf (w : World) (g : Nat) (cs : Array Value) (t : TypeId) : Prop:=w.heap[g]? = some (.cells cs t (0,0))
theorem BoxOf.lt {w : World} {g : Nat} {cs : Array Value} {t : TypeId} (h : BoxOf w g cs t) : g < w.heap.size:=by
 unfold BoxOf at h
 rcases Nat.lt_or_ge g w.heap.size with h1 | h1
 · exact h1
 · rw [Array.getElem?_eq_none h1] at h;cases h
theorem BoxOf.cell {w : World} {g : Nat} {cs : Array Value} {t : TypeId} (h : BoxOf w g cs t) : ∀ o,w.cell? ⟨g,o,none⟩ = cs.toList[o]?:=fun o=>by
 rw [cell_of_row w g o cs t (0,0) h,Array.getElem?_toList]
theorem BoxOf.free {w : World} {g : Nat} {cs : Array Value} {t : TypeId} (h : BoxOf w g cs t) : ∀ o,w.frozen? ⟨g,o,none⟩ = false:=fun o=>by
 unfold BoxOf at h
 simp [World.frozen?,h]
theorem BoxOf.next {w w' : World} {g : Nat} {cs : Array Value} {t : TypeId} (h : BoxOf w g cs t) (hb : Below w.heap.size w w') : BoxOf w' g cs t:=by
 have hg:=h.lt
 unfold BoxOf at *
 rw [hb.block g hg];exact h
theorem BoxOf.new (w : World) (cs : Array Value) (t : TypeId) : BoxOf (w.alloc (.cells cs t)) w.heap.size cs t:=heap_alloc_new _ _
theorem BoxOf.new' (w : World) (g : Nat) (cs : Array Value) (t : TypeId) (hg : g = w.heap.size) : BoxOf (w.alloc (.cells cs t)) g cs t:=hg ▸ heap_alloc_new _ _
theorem BoxOf.alloc {w : World} {g : Nat} {cs : Array Value} {t : TypeId} (h : BoxOf w g cs t) (o : Obj) : BoxOf (w.alloc o) g cs t:=h.next (Ext.alloc (Below.refl _ _) o)
theorem BoxOf.drew {w : World} {g : Nat} {cs : Array Value} {t : TypeId} (h : BoxOf w g cs t) : BoxOf w.drew g cs t:=h
theorem BoxOf.drewN {w : World} {g : Nat} {cs : Array Value} {t : TypeId} (h : BoxOf w g cs t) (q : Nat) : BoxOf (w.drewN q) g cs t:=h
theorem BoxOf.set {w : World} {g : Nat} {cs : Array Value} {t : TypeId} (h : BoxOf w g cs t) (ds : Array Value) : BoxOf (w.setRow g ds) g ds t:=setRow_heap w _ _ _ _ _ h
theorem BoxOf.other {w : World} {g k : Nat} {cs : Array Value} {t : TypeId} (h : BoxOf w g cs t) (hk : g ≠ k) (ds : Array Value) : BoxOf (w.setRow k ds) g cs t:=by
 unfold BoxOf at *
 rw [setRow_other w k g ds hk];exact h
theorem Ext.setRow {a b : World} (h : Below a.heap.size a b) {g : Nat} (hg : a.heap.size ≤ g) (cs : Array Value) : Below a.heap.size a (b.setRow g cs):=below_setRow h hg cs
theorem setRow_size (w : World) (g : Nat) (cs : Array Value) : (w.setRow g cs).heap.size = w.heap.size:=by simp [World.setRow]
end Go.Proofs.Ythapabjlhooglaa
namespace Go.Proofs.Ythapabjlhooglaa
open Go.RowKit
theorem own_block {w : World} {base e n : Nat} {size : Nat} {v : Value} {xs : List Value} (h : w.ownsRow base e size v n xs) {k : Nat} (hk : v.ownBlock = some k) : base ≤ k:=by
 rcases h.2 with ⟨rfl,_⟩ | ⟨g,cap,cur,rfl,hb,_⟩
 · simp [Value.ownBlock] at hk
 · simp [Value.ownBlock] at hk;omega
theorem own_lt {w : World} {base e n : Nat} {size : Nat} {v : Value} {xs : List Value} (h : w.ownsRow base e size v n xs) {k : Nat} (hk : v.ownBlock = some k) : k < w.heap.size:=by
 rcases h.2 with ⟨rfl,_⟩ | ⟨g,cap,cur,rfl,hb,hg,_⟩
 · simp [Value.ownBlock] at hk
 · simp [Value.ownBlock] at hk
   subst hk
   exact (Array.getElem?_eq_some_iff.1 hg).1
theorem own_ne {w : World} {base e n : Nat} {size : Nat} {v : Value} {xs : List Value} (h : w.ownsRow base e size v n xs) {g : Nat} (hg : g < base) : v.ownBlock ≠ some g:=fun e=>by
 have:=own_block h e
 omega
theorem own_next {w w' : World} {base e n : Nat} {size : Nat} {v : Value} {xs : List Value} (h : w.ownsRow base e size v n xs) (hb : Below w.heap.size w w') : w'.ownsRow base e size v n xs:=by
 refine ⟨h.1,?_⟩
 rcases h.2 with h2 | ⟨g,cap,cur,hv,hg,hr,hrest⟩
 · exact .inl h2
 · exact .inr ⟨g,cap,cur,hv,hg,by rw [hb.block g (Array.getElem?_eq_some_iff.1 hr).1];exact hr,hrest⟩
theorem BoxOf.grown {w w' : World} {g : Nat} {cs : Array Value} {t : TypeId} {row : Option Nat} (h : BoxOf w g cs t) (hg : w.grownBy w' row) (hr : row ≠ some g) : BoxOf w' g cs t:=by
 have hl:=h.lt
 unfold BoxOf at *
 rw [hg.block g hl (fun e=>hr e.symm)];exact h
theorem rd_one (w : World) (v : Value) (t : TypeId) : Rd (w.alloc (.cells #[v] t)) (some ⟨w.heap.size,0,none⟩) [v]:=.inr ⟨w.heap.size,0,rfl,fun o ho=>by
 have h0 : o = 0:=by simpa using ho
 subst h0
 rw [World.cell?_alloc_mark]
 rfl⟩
end Go.Proofs.Ythapabjlhooglaa
namespace Go.Proofs.Ythapabjlhooglaa
open Go.RowKit
def InK : IntKind → Int → Prop
 | .u8,n=>0 ≤ n ∧ n < 256
 | .u32,n=>0 ≤ n ∧ n < 2 ^ 32
 | .i64,n=>IsInt n
 | _,_=>True
def LikeV (v v' : Value) : Prop:=v' = v ∨ ∃ k n n',v = .int k n ∧ v' = .int k n' ∧ InK k n'
def Like (cs cs' : List Value) : Prop:=cs.length = cs'.length ∧ ∀ (i : Nat) (v v' : Value),cs[i]? = some v → cs'[i]? = some v' → LikeV v v'
theorem Like.refl (cs : List Value) : Like cs cs:=⟨rfl,fun i v v' h h'=>.inl (by rw [h] at h';exact (Option.some.inj h').symm)⟩
theorem Like.one {v : Value} {cs' : List Value} (h : Like [v] cs') : ∃ v',cs' = [v'] ∧ LikeV v v':=by
 obtain ⟨h1,h2⟩:=h
 match cs',h1 with
 | [v'],_=>exact ⟨v',rfl,h2 0 v v' rfl rfl⟩
theorem Like.nil {cs' : List Value} (h : Like [] cs') : cs' = []:=List.eq_nil_of_length_eq_zero h.1.symm
theorem Like.split {c1 c2 cs' : List Value} (h : Like (c1 ++ c2) cs') : ∃ d1 d2,cs' = d1 ++ d2 ∧ Like c1 d1 ∧ Like c2 d2:=by
 have hl:=h.1
 rw [List.length_append] at hl
 refine ⟨cs'.take c1.length,cs'.drop c1.length,(List.take_append_drop _ _).symm,⟨by simp;omega,fun i v v' h1 h2=>?_⟩,⟨by simp;omega,fun i v v' h1 h2=>?_⟩⟩
 · have hi : i < c1.length:=(List.getElem?_eq_some_iff.1 h1).1
   refine h.2 i v v' (by rw [List.getElem?_append_left hi];exact h1) ?_
   rw [List.getElem?_take,if_pos hi] at h2
   exact h2
 · refine h.2 (c1.length + i) v v' (by rw [List.getElem?_append_right (by omega),Nat.add_sub_cancel_left];exact h1) ?_
   rw [List.getElem?_drop] at h2
   exact h2
theorem Like.part {cs cs' : List Value} (h : Like cs cs') (i n : Nat) : Like ((cs.drop i).take n) ((cs'.drop i).take n):=by
 refine ⟨by simp [h.1],fun j v v' h1 h2=>?_⟩
 rw [List.getElem?_take] at h1 h2
 split at h1
 · rename_i hj
   rw [if_pos hj] at h2
   rw [List.getElem?_drop] at h1 h2
   exact h.2 _ _ _ h1 h2
 · cases h1
def NumAt (w w' : World) : Prop:=∀ p v,w.cell? p = some v → ∃ v',w'.cell? p = some v' ∧ LikeV v v'
theorem NumAt.cells {w w' : World} (hw : NumAt w w') {b o n : Nat} {es : List Value} (hl : es.length = n) (hc : ∀ j,j < n → w.cell? ⟨b,o + j,none⟩ = es[j]?) :
 ∃ es' : List Value,es'.length = n ∧ (∀ j,j < n → w'.cell? ⟨b,o + j,none⟩ = es'[j]?) ∧ Like es es':=by
 have hx : ∀ j,j < n → ∃ v',w'.cell? ⟨b,o + j,none⟩ = some v' ∧ LikeV (es.getD j undef) v':=by
  intro j hj
  have h1:=hc j hj
  rw [List.getElem?_eq_getElem (by omega)] at h1
  obtain ⟨v',h2,h3⟩:=hw _ _ h1
  refine ⟨v',h2,?_⟩
  rw [List.getD_eq_getElem?_getD,List.getElem?_eq_getElem (by omega)]
  exact h3
 obtain ⟨l,hll,hlr⟩:=choose_list (R:=fun j v'=>w'.cell? ⟨b,o + j,none⟩ = some v' ∧ LikeV (es.getD j undef) v') n hx
 refine ⟨l,hll,fun j hj=>?_,by omega,fun j v v' h1 h2=>?_⟩
 · rw [List.getElem?_eq_getElem (by omega)]
   exact (hlr j (by omega)).1
 · obtain ⟨hj,rfl⟩:=List.getElem?_eq_some_iff.1 h2
   have h3:=(hlr j hj).2
   rw [List.getD_eq_getElem?_getD,h1] at h3
   exact h3
theorem RdIn.numbers {w w' : World} {S : Nat → Prop} (hw : NumAt w w') : (t : Ty) → {x : t.T} → {cs cs' : List Value} → RdIn w S t x cs → Like cs cs' → ∃ x' : t.T,RdIn w' S t x' cs'
 | .byte,x,_,cs',h,hl=>by
   obtain rfl:=rdin_byte.1 h
   obtain ⟨v',rfl,hv⟩:=hl.one
   rcases hv with rfl | ⟨k,n,n',e,rfl,hk⟩
   · exact ⟨x,rdin_byte.2 rfl⟩
   · unfold byteV at e
     injection e with e1 e2
     subst e1
     obtain ⟨h1,h2⟩:=hk
     refine ⟨UInt8.ofNat n'.toNat,rdin_byte.2 ?_⟩
     unfold byteV
     congr 2
     simp
     omega
 | .u32,x,_,cs',h,hl=>by
   obtain ⟨rfl,hx⟩:=rdin_u32.1 h
   obtain ⟨v',rfl,hv⟩:=hl.one
   rcases hv with rfl | ⟨k,n,n',e,rfl,hk⟩
   · exact ⟨x,rdin_u32.2 ⟨rfl,hx⟩⟩
   · injection e with e1 e2
     subst e1
     obtain ⟨h1,h2⟩:=hk
     refine ⟨n'.toNat,rdin_u32.2 ⟨?_,by omega⟩⟩
     rw [show ((n'.toNat : Nat) : Int) = n' by omega]
 | .int,x,_,cs',h,hl=>by
   obtain ⟨rfl,hx⟩:=rdin_int.1 h
   obtain ⟨v',rfl,hv⟩:=hl.one
   rcases hv with rfl | ⟨k,n,n',e,rfl,hk⟩
   · exact ⟨x,rdin_int.2 ⟨rfl,hx⟩⟩
   · injection e with e1 e2
     subst e1
     exact ⟨n',rdin_int.2 ⟨rfl,hk⟩⟩
 | .bool,x,_,cs',h,hl=>by
   obtain rfl:=rdin_bool.1 h
   obtain ⟨v',rfl,hv⟩:=hl.one
   rcases hv with rfl | ⟨k,n,n',e,rfl,hk⟩
   · exact ⟨x,rdin_bool.2 rfl⟩
   · cases e
 | .sl e,xs,_,cs',h,hl=>by
   obtain ⟨A,c,rfl,hn,hm,hz,h⟩:=rdin_sl.1 h
   obtain ⟨v',rfl,hv⟩:=hl.one
   rcases hv with rfl | ⟨k,n,n',e',rfl,hk⟩
   · rcases h with h | ⟨b,off,hA,hb,h⟩
     · exact ⟨xs,rdin_sl.2 ⟨A,c,rfl,hn,hm,hz,.inl h⟩⟩
     · have hx : ∀ i,i < xs.length → ∃ x' : e.T,∃ es : List Value,(∀ j,j < e.size → w'.cell? ⟨b,off + i * e.size + j,none⟩ = es[j]?) ∧ RdIn w' S e x' es:=by
        intro i hi
        obtain ⟨es,hc,hr⟩:=h i hi
        obtain ⟨es',hl',hc',hlk⟩:=hw.cells hr.len hc
        obtain ⟨x',hr'⟩:=RdIn.numbers hw e hr hlk
        exact ⟨x',es',hc',hr'⟩
       obtain ⟨l,hll,hlr⟩:=choose_list xs.length hx
       have hll' : List.length (α:=e.T) l = List.length (α:=e.T) xs:=hll
       exact ⟨l,rdin_sl.2 ⟨A,c,by rw [hll'],by rw [hll'];exact hn,hm,by rw [hll'];exact hz,.inr ⟨b,off,hA,hb,fun i hi=>hlr i hi⟩⟩⟩
   · cases e'
 | .unit,x,_,cs',h,hl=>by
   obtain rfl:=rdin_unit.1 h
   exact ⟨x,rdin_unit.2 hl.nil⟩
 | .prod a b,x,_,cs',h,hl=>by
   obtain ⟨c1,c2,rfl,h1,h2⟩:=(show ∃ c1 c2,_ = c1 ++ c2 ∧ _ from h)
   obtain ⟨d1,d2,rfl,l1,l2⟩:=hl.split
   obtain ⟨x1,r1⟩:=RdIn.numbers hw a h1 l1
   obtain ⟨x2,r2⟩:=RdIn.numbers hw b h2 l2
   exact ⟨(x1,x2),rdin_prod.2 ⟨d1,d2,rfl,r1,r2⟩⟩
 | .st p,x,_,cs',h,hl=>by
   obtain ⟨x',r⟩:=RdIn.numbers hw p (rdin_st.1 h) hl
   exact ⟨x',rdin_st.2 r⟩
 | .arr m e,xs,cs,cs',h,hl=>by
   obtain ⟨h1,h2,h3⟩:=rdin_arr.1 h
   have hx : ∀ i,i < xs.length → ∃ x' : e.T,RdIn w' S e x' ((cs'.drop (i * e.size)).take e.size):=fun i hi=>RdIn.numbers hw e (h3 i hi) (hl.part _ _)
   obtain ⟨l,hll,hlr⟩:=choose_list xs.length hx
   have hll' : List.length (α:=e.T) l = List.length (α:=e.T) xs:=hll
   exact ⟨l,rdin_arr.2 ⟨by rw [hll'];exact h1,by rw [← hl.1];exact h2,fun i hi=>hlr i hi⟩⟩
theorem numAt_set {w : World} {a : Addr} {k : IntKind} {n n' : Int} (h : w.cell? a = some (.int k n)) (hk : InK k n') : NumAt w (w.setCell a (.int k n')):=by
 intro p v hv
 by_cases e : p = a
 · subst e
   rw [h] at hv
   obtain rfl:=Option.some.inj hv
   exact ⟨_,World.cell?_setCell_same w p _ h,.inr ⟨k,n,n',rfl,rfl,hk⟩⟩
 · exact ⟨v,by rw [World.cell?_setCell_other (h:=fun h=>e h.symm)];exact hv,.inl rfl⟩
def Shp (w : World) (S : Nat → Prop) (t : Ty) (cs : List Value) : Prop:=∃ x : t.T,RdIn w S t x cs
theorem Shp.num {w w' : World} {S : Nat → Prop} {t : Ty} {cs : List Value} (h : Shp w S t cs) (hw : NumAt w w') : Shp w' S t cs:=by
 obtain ⟨x,hx⟩:=h
 exact RdIn.numbers hw t hx (Like.refl cs)
def Live (w : World) (b : Nat) : Prop:=∃ cs t,w.heap[b]? = some (.cells cs t (0,0))
theorem Live.lt {w : World} {b : Nat} (h : Live w b) : b < w.heap.size:=by
 obtain ⟨_,_,h⟩:=h
 exact (Array.getElem?_eq_some_iff.1 h).1
theorem Live.below {w w' : World} {b : Nat} (h : Live w b) (hb : Below w.heap.size w w') : Live w' b:=by
 have hl:=h.lt
 obtain ⟨cs,t,h⟩:=h
 exact ⟨cs,t,by rw [hb.block b hl];exact h⟩
theorem Live.set {w : World} {b : Nat} (h : Live w b) (a : Addr) (v : Value) : Live (w.setCell a v) b:=by
 obtain ⟨cs,t,h⟩:=h
 by_cases e : b = a.block
 · subst e
   exact ⟨_,t,by simp [World.setCell,Array.getElem?_modify,h];rfl⟩
 · exact ⟨cs,t,by rw [Below.heap_setCell _ _ _ _ e];exact h⟩
theorem Live.grown {w w' : World} {b : Nat} {row : Option Nat} (h : Live w b) (hg : w.grownBy w' row) (hne : some b ≠ row) : Live w' b:=by
 have hl:=h.lt
 obtain ⟨cs,t,h⟩:=h
 exact ⟨cs,t,by rw [hg.block b hl hne];exact h⟩
theorem Live.free {w : World} {b : Nat} (h : Live w b) (o : Nat) : w.frozen? ⟨b,o,none⟩ = false:=by
 obtain ⟨cs,t,h⟩:=h
 simp [World.frozen?,h]
def NewB (base : Nat) (w : World) (b : Nat) : Prop:=base ≤ b ∧ b < w.heap.size ∧ Live w b
def Fresh (w : World) (base : Nat) (v : Value) (b : Nat) : Prop:=base ≤ b ∧ b < w.heap.size ∧ v.ownBlock ≠ some b ∧ Live w b
def OwnL (w : World) (base : Nat) (tid : TypeId) (e : Ty) (v : Value) (xs : List e.T) : Prop:=
 ∃ ess : List (List Value),ess.length = xs.length ∧ (∀ i (h : i < xs.length) (h' : i < ess.length),RdIn w (Fresh w base v) e xs[i] ess[i]) ∧ w.ownsRow base tid e.size v xs.length ess.flatten
theorem OwnL.nil (w : World) (base : Nat) (tid : TypeId) (e : Ty) : OwnL w base tid e (.slice none 0 0) []:=⟨[],rfl,fun i h=>absurd h (by simp),by simp,.inl ⟨rfl,rfl⟩⟩
theorem Fresh.next {w w' : World} {base : Nat} {v : Value} {b : Nat} (h : Fresh w base v b) (hb : Below w.heap.size w w') : Fresh w' base v b:=⟨h.1,Nat.lt_of_lt_of_le h.2.1 hb.size,h.2.2.1,h.2.2.2.below hb⟩
theorem OwnL.next {w w' : World} {base : Nat} {tid : TypeId} {e : Ty} {v : Value} {xs : List e.T} (h : OwnL w base tid e v xs) (hb : Below w.heap.size w w') : OwnL w' base tid e v xs:=by
 obtain ⟨ess,hl,hr,ho⟩:=h
 exact ⟨ess,hl,fun i h h'=>((hr i h h').below hb).mono fun b hb'=>hb'.next hb,own_next ho hb⟩
theorem flatten_at {n : Nat} : ∀ (ess : List (List Value)),(∀ es ∈ ess,es.length = n) → ∀ i j,j < n → ess.flatten[i * n + j]? = (ess[i]?).bind fun es=>es[j]?:=by
 intro ess
 induction ess with
 | nil=>intro _ i j _;simp
 | cons a ess ih=>
   intro h i j hj
   have ha:=h a (by simp)
   rw [List.flatten_cons]
   rcases i with _ | i
   · rw [List.getElem?_append_left (by omega)]
     simp
   · rw [List.getElem?_append_right (by rw [ha,Nat.add_mul];omega),ha,show (i + 1) * n + j - n = i * n + j by rw [Nat.add_mul];omega,ih (fun es he=>h es (by simp [he])) i j hj]
     simp
theorem OwnL.rdin {w : World} {base : Nat} {tid : TypeId} {e : Ty} {v : Value} {xs : List e.T} (h : OwnL w base tid e v xs) (hz : xs.length * e.bytes ≤ 140737488355328) : RdIn w (NewB base w) (.sl e) xs [v]:=by
 obtain ⟨ess,hl,hr,ho⟩:=h
 have hes : ∀ es ∈ ess,es.length = e.size:=by
  intro es he
  obtain ⟨i,hi,rfl⟩:=List.getElem_of_mem he
  exact (hr i (by omega) hi).len
 rcases ho.2 with ⟨rfl,h0⟩ | ⟨g,cap,cur,rfl,hb,hg,hn,hm,hsz,htk⟩
 · have hx : xs = []:=List.eq_nil_of_length_eq_zero h0
   subst hx
   exact rdin_sl.2 ⟨none,0,rfl,by simp,by simp [maxLen],by simp,.inl rfl⟩
 · refine rdin_sl.2 ⟨some ⟨g,0,none⟩,cap,rfl,hn,hm,hz,.inr ⟨g,0,rfl,⟨hb,(Array.getElem?_eq_some_iff.1 hg).1,_,_,hg⟩,fun i hi=>⟨ess[i]'(by omega),fun j hj=>?_,(hr i hi (by omega)).mono fun b hb=>⟨hb.1,hb.2.1,hb.2.2.2⟩⟩⟩⟩
   have h1:=flatten_at ess hes i j hj
   rw [List.getElem?_eq_getElem (show i < ess.length by omega)] at h1
   show w.cell? ⟨g,0 + i * e.size + j,none⟩ = _
   rw [Nat.zero_add,cell_of_row w g _ cur tid (0,0) hg]
   have h2 : i * e.size + j < xs.length * e.size:=by
    have : (i + 1) * e.size ≤ xs.length * e.size:=Nat.mul_le_mul_right _ (by omega)
    rw [Nat.add_mul] at this
    omega
   rw [← htk,List.getElem?_take,if_pos h2] at h1
   simpa using h1
theorem RdIn.plain {w : World} {S : Nat → Prop} : (t : Ty) → {x : t.T} → {cs : List Value} → RdIn w S t x cs → ∀ u ∈ cs,u.oneCell' = true
 | .byte,_,_,h=>by obtain rfl:=rdin_byte.1 h;intro u hu;simp at hu;subst hu;rfl
 | .u32,_,_,h=>by obtain ⟨rfl,_⟩:=rdin_u32.1 h;intro u hu;simp at hu;subst hu;rfl
 | .int,_,_,h=>by obtain ⟨rfl,_⟩:=rdin_int.1 h;intro u hu;simp at hu;subst hu;rfl
 | .bool,_,_,h=>by obtain rfl:=rdin_bool.1 h;intro u hu;simp at hu;subst hu;rfl
 | .sl e,_,_,h=>by obtain ⟨_,_,rfl,_⟩:=rdin_sl.1 h;intro u hu;simp at hu;subst hu;rfl
 | .unit,_,_,h=>by obtain rfl:=rdin_unit.1 h;intro u hu;simp at hu
 | .prod a b,_,_,h=>by
   obtain ⟨c1,c2,rfl,h1,h2⟩:=(show ∃ c1 c2,_ = c1 ++ c2 ∧ _ from h)
   intro u hu
   rcases List.mem_append.1 hu with hu | hu
   · exact RdIn.plain a h1 u hu
   · exact RdIn.plain b h2 u hu
 | .st p,_,_,h=>RdIn.plain p (rdin_st.1 h)
 | .arr m e,xs,cs,h=>by
   obtain ⟨h1,h2,h3⟩:=rdin_arr.1 h
   intro u hu
   obtain ⟨i,hi,rfl⟩:=List.getElem_of_mem hu
   by_cases h0 : e.size = 0
   · rw [h0] at h2;omega
   · have hq : i / e.size < xs.length:=by
      have hlt : i / e.size < m:=Nat.div_lt_of_lt_mul (by rw [Nat.mul_comm];omega)
      omega
     refine RdIn.plain e (h3 (i / e.size) hq) _ ?_
     rw [List.mem_iff_getElem?]
     refine ⟨i % e.size,?_⟩
     have hm:=Nat.mod_lt i (Nat.pos_of_ne_zero h0)
     rw [List.getElem?_take,if_pos hm,List.getElem?_drop,Nat.mul_comm,Nat.div_add_mod]
     exact List.getElem?_eq_getElem hi
section
variable {P : Program} {w : World}
end
end Go.Proofs.Ythapabjlhooglaa
namespace Go.Proofs.Ythapabjlhooglaa
open Go.RowKit
def Ty.flat : Ty → Bool
 | byte | u32 | int | bool=>true
 | _=>false
def encT : (e : Ty) → e.T → Value
 | .byte,x=>byteV x
 | .u32,n=>.int .u32 ((show Nat from n : Nat) : Int)
 | .int,n=>.int .i64 (show Int from n)
 | .bool,b=>.bool b
 | _,_=>undef
theorem flat_size {e : Ty} (h : e.flat = true) : e.size = 1:=by cases e <;> simp_all [Ty.flat,Ty.size]
theorem flat_enc {w : World} {S : Nat → Prop} {e : Ty} (h : e.flat = true) {x : e.T} {es : List Value} (hr : RdIn w S e x es) : es = [encT e x]:=by
 cases e with
 | byte=>exact rdin_byte.1 hr
 | u32=>exact (rdin_u32.1 hr).1
 | int=>exact (rdin_int.1 hr).1
 | bool=>exact rdin_bool.1 hr
 | _=>cases h
theorem flat_any {w w' : World} {S S' : Nat → Prop} {e : Ty} (h : e.flat = true) {x : e.T} {es : List Value} (hr : RdIn w S e x es) : RdIn w' S' e x es:=by
 cases e with
 | byte=>exact hr
 | u32=>exact hr
 | int=>exact hr
 | bool=>exact hr
 | _=>cases h
theorem RdIn.row {w : World} {S : Nat → Prop} {e : Ty} (he : e.flat = true) {xs : List e.T} {A : Option Addr} {n c : Nat} (h : RdIn w S (.sl e) xs [.slice A n c]) : xs.length = n ∧ Rd w A (xs.map (encT e)):=by
 obtain ⟨A',c',h1,_,_,_,h⟩:=rdin_sl.1 h
 injection h1 with h1 _
 injection h1 with h1 h2 h3
 refine ⟨h2.symm,?_⟩
 rcases h with h | ⟨b,off,hA,_,h⟩
 · exact .inl (by rw [h];rfl)
 · refine .inr ⟨b,off,h1.trans hA,fun j hj=>?_⟩
   have hj' : j < xs.length:=by simpa using hj
   obtain ⟨es,hc,hr⟩:=h j hj'
   have h0:=hc 0 (by rw [flat_size he];decide)
   rw [flat_enc he hr,flat_size he] at h0
   simpa [hj'] using h0
theorem RdIn.bytes_bs {w : World} {S : Nat → Prop} {bs : List UInt8} {A : Option Addr} {n c : Nat} (h : RdIn w S (.sl .byte) bs [.slice A n c]) : Bs w A n bs:=by
 have h1:=RdIn.row (e:=.byte) rfl h
 exact ⟨h1.1,h1.2⟩
theorem RdIn.bytes {w : World} {S : Nat → Prop} {bs : List UInt8} {v : Value} (h : RdIn w S (.sl .byte) bs [v]) : ∃ A c,v = .slice A bs.length c ∧ Bs w A bs.length bs:=by
 obtain ⟨A,c,h1,_⟩:=rdin_sl.1 h
 have hv : v = .slice A bs.length c:=(List.cons.inj h1).1
 subst hv
 exact ⟨A,c,rfl,RdIn.bytes_bs h⟩
section
variable {P : Program} {w : World}
theorem wp_copyL {o : Oper} {a : Act} {K : Act → World → Prop} {Q : Exit → Act → World → Prop} (s x : Operand) (t : TypeId)
 (ho : o.op = .call { callee:=.builtin .append,args:=#[s,x],argTypes:=#[t,t] })
 (tid : TypeId) (i : TypeInfo) (z : Value) (e : Ty) (he : e.flat = true) (ht : P.underlying t = some (.slice tid)) (hi : P.info? tid = some i) (hz : i.zero = some z)
 (hsize : i.size = 1) (hby : i.bytes = e.bytes) (hzs : z.cells.size = 1)
 (hs : a.eval s = .slice none 0 0) (S : Nat → Prop) (xs : List e.T) (A : Option Addr) (m c : Nat) (hx : a.eval x = .slice A m c) (hr : RdIn w S (.sl e) xs [.slice A m c])
 (h : ∀ v' w',RdIn w' (NewB w.heap.size w') (.sl e) xs [v'] → Below w.heap.size w w' → K (a.put o.dst v') w') : o.wp P a w K Q:=by
 obtain ⟨hl,hrd⟩:=hr.row he
 obtain ⟨A',c',h1,hn,hm,hb,hel⟩:=rdin_sl.1 hr
 injection h1 with h1 _
 injection h1 with _ _ hcc
 subst hcc
 have hplain : ∀ u ∈ xs.map (encT e),u.oneCell' = true:=by
  intro u hu
  rw [List.mem_map] at hu
  obtain ⟨y,_,rfl⟩:=hu
  cases e <;> first | rfl | cases he
 refine wp_append_rd w s x t ho w.heap.size tid i z 1 e.bytes ht hi hz hsize hby hzs (by decide) (.slice none 0 0) 0 [] hs ⟨rfl,.inl ⟨rfl,rfl⟩⟩ A m c (xs.map (encT e)) hx (by simp [hl]) hrd hplain (by omega) (by rw [Nat.zero_add,← hl];exact hb) (Nat.le_refl _) ?_
 intro v' w' h2 h3 _
 rw [Nat.zero_add,List.nil_append] at h2
 have bl : Below w.heap.size w w':=(Below.refl _ _).grown h3 (Nat.le_refl _) (fun k e=>by cases e)
 refine h v' w' ?_ bl
 rcases h2.2 with ⟨rfl,h0⟩ | ⟨g,cap,cur,rfl,hg,hh,hnc,hcm,hsz,htk⟩
 · have hx0 : xs = []:=List.eq_nil_of_length_eq_zero (by omega)
   subst hx0
   exact rdin_sl.2 ⟨none,0,rfl,by simp,by simp [maxLen],by simp,.inl rfl⟩
 · subst hl
   refine rdin_sl.2 ⟨some ⟨g,0,none⟩,cap,rfl,hnc,hcm,hb,.inr ⟨g,0,rfl,⟨hg,(Array.getElem?_eq_some_iff.1 hh).1,_,_,hh⟩,fun j hj=>⟨[encT e xs[j]],fun q hq=>?_,?_⟩⟩⟩
   · rw [flat_size he] at hq ⊢
     have hq0 : q = 0:=by omega
     subst hq0
     show w'.cell? ⟨g,0 + j * 1 + 0,none⟩ = _
     rw [Nat.zero_add,Nat.add_zero,Nat.mul_one,cell_of_row w' g _ cur tid (0,0) hh]
     have h4 : (xs.map (encT e))[j]? = some (encT e xs[j]):=by simp [hj]
     rw [← htk,List.getElem?_take,if_pos (by omega)] at h4
     simpa using h4
   · rcases hel with h0 | ⟨b,off,_,_,h5⟩
     · rw [h0] at hj;simp at hj
     · obtain ⟨es,_,hr5⟩:=h5 j hj
       have:=flat_enc he hr5
       subst this
       exact flat_any he hr5
theorem wpList_copyL {ops : Array Oper} {rest : List Oper} {o : Oper} {a : Act} {Q : Exit → Act → World → Prop} (hgd : o.guard = none) (s x : Operand) (t : TypeId)
 (ho : o.op = .call { callee:=.builtin .append,args:=#[s,x],argTypes:=#[t,t] })
 (tid : TypeId) (i : TypeInfo) (z : Value) (e : Ty) (he : e.flat = true) (ht : P.underlying t = some (.slice tid)) (hi : P.info? tid = some i) (hz : i.zero = some z)
 (hsize : i.size = 1) (hby : i.bytes = e.bytes) (hzs : z.cells.size = 1)
 (hs : a.eval s = .slice none 0 0) (S : Nat → Prop) (xs : List e.T) (A : Option Addr) (m c : Nat) (hx : a.eval x = .slice A m c) (hr : RdIn w S (.sl e) xs [.slice A m c])
 (h : ∀ v' w',RdIn w' (NewB w.heap.size w') (.sl e) xs [v'] → Below w.heap.size w w' → wpList P ops Q rest (a.put o.dst v') w') : wpList P ops Q (o :: rest) a w:=
 wpList_plain hgd fun _ hK=>wp_copyL s x t ho tid i z e he ht hi hz hsize hby hzs hs S xs A m c hx hr fun v' w' h2 h3=>hK _ _ (h v' w' h2 h3)
end
end Go.Proofs.Ythapabjlhooglaa
namespace Go.Proofs.Ythapabjlhooglaa
open Go Go.RowKit
set_option linter.unusedSimpArgs false
set_option linter.unusedVariables false
abbrev AskTy : Ty:=.st (.prod .byte (.prod .int (.prod .int (.prod (.sl .byte) .unit))))
abbrev GoTy : Ty:=.st (.prod .int (.prod (.st (.prod .byte (.prod .int (.prod .int (.prod (.sl .byte) .unit))))) (.prod (.sl .int) .unit)))
section
variable {w : World} {S : Nat → Prop}
theorem ask_view {a : AskTy.T} {cs : List Value} (h : RdIn w S AskTy a cs) : ∃ (ki : UInt8) (at' many : Int) (bs : List UInt8) (v : Value),a = (ki,at',many,bs,()) ∧ cs = [.int .u8 (ki.toNat : Int),.int .i64 at',.int .i64 many,v] ∧ IsInt at' ∧ IsInt many ∧ RdIn w S (.sl .byte) bs [v]:=by
 obtain ⟨ki,at',many,bs,u⟩:=a
 obtain ⟨c0,d0,rfl,r0,h⟩:=rdin_prod.1 (rdin_st.1 h)
 obtain ⟨c1,d1,rfl,r1,h⟩:=rdin_prod.1 h
 obtain ⟨c2,d2,rfl,r2,h⟩:=rdin_prod.1 h
 obtain ⟨c3,d3,rfl,r3,h⟩:=rdin_prod.1 h
 obtain rfl:=rdin_unit.1 h
 obtain rfl:=rdin_byte.1 r0
 obtain ⟨rfl,i1⟩:=rdin_int.1 r1
 obtain ⟨rfl,i2⟩:=rdin_int.1 r2
 obtain ⟨A,c,e,_⟩:=rdin_sl.1 r3
 subst e
 exact ⟨ki,at',many,bs,_,rfl,rfl,i1,i2,r3⟩
theorem ask_mk {ki : UInt8} {at' many : Int} {bs : List UInt8} {v : Value} (h1 : IsInt at') (h2 : IsInt many) (h : RdIn w S (.sl .byte) bs [v]) : RdIn w S AskTy (ki,at',many,bs,()) [.int .u8 (ki.toNat : Int),.int .i64 at',.int .i64 many,v]:=
 rdin_st.2 (rdin_prod.2 ⟨[_],[_,_,_],rfl,rdin_byte.2 rfl,rdin_prod.2 ⟨[_],[_,_],rfl,rdin_int.2 ⟨rfl,h1⟩,rdin_prod.2 ⟨[_],[_],rfl,rdin_int.2 ⟨rfl,h2⟩,rdin_prod.2 ⟨[_],[],rfl,h,rdin_unit.2 rfl⟩⟩⟩⟩)
theorem list_view {e : Ty} {xs : List e.T} {v : Value} (h : RdIn w S (.sl e) xs [v]) : ∃ A c,v = .slice A xs.length c ∧ xs.length ≤ c ∧ c ≤ maxLen ∧ xs.length * e.bytes ≤ 140737488355328 ∧ (0 < xs.length → ∃ b off,A = some ⟨b,off,none⟩ ∧ S b ∧ ∀ i (hi : i < xs.length),∃ es : List Value,(∀ j,j < e.size → w.cell? ⟨b,off + i * e.size + j,none⟩ = es[j]?) ∧ RdIn w S e xs[i] es):=by
 obtain ⟨A,c,h1,hn,hm,hz,hx⟩:=rdin_sl.1 h
 refine ⟨A,c,(List.cons.inj h1).1,hn,hm,hz,fun h0=>?_⟩
 rcases hx with hx | ⟨b,off,hA,hb,hx⟩
 · rw [hx] at h0;exact absurd h0 (by simp)
 · exact ⟨b,off,hA,hb,hx⟩
theorem lists_view {e : Ty} {xs : List (List e.T)} {v : Value} (h : RdIn w S (.sl (.sl e)) xs [v]) : ∃ A c,v = .slice A xs.length c ∧ xs.length ≤ c ∧ c ≤ maxLen ∧ xs.length * 24 ≤ 140737488355328 ∧ (0 < xs.length → ∃ b off,A = some ⟨b,off,none⟩ ∧ S b ∧ ∀ i (hi : i < xs.length),∃ A' c',w.cell? ⟨b,off + i,none⟩ = some (.slice A' xs[i].length c') ∧ RdIn w S (.sl e) xs[i] [.slice A' xs[i].length c']):=by
 obtain ⟨A,c,h1,hn,hm,hz,hx⟩:=list_view h
 refine ⟨A,c,h1,hn,hm,hz,fun h0=>?_⟩
 obtain ⟨b,off,hA,hb,hx⟩:=hx h0
 refine ⟨b,off,hA,hb,fun i hi=>?_⟩
 obtain ⟨es,hc,hr⟩:=hx i hi
 have h2:=hc 0 (show 0 < 1 by decide)
 obtain ⟨A',c',rfl,_⟩:=rdin_sl.1 hr
 refine ⟨A',c',?_,hr⟩
 have h3 : off + i * Ty.size (.sl e) + 0 = off + i:=by show off + i * 1 + 0 = off + i;omega
 rw [h3] at h2
 exact h2
end
theorem mbox_self {w : World} {g : Nat} {cs : Array Value} {t : TypeId} (h : BoxOf w g cs t) (i : Nat) (v : Value) : BoxOf (w.setCell ⟨g,i,none⟩ v) g (cs.setIfInBounds i v) t:=by
 unfold BoxOf at *
 simp [World.setCell,Array.getElem?_modify,h]
theorem mbox_else {w : World} {g k : Nat} {cs : Array Value} {t : TypeId} (h : BoxOf w g cs t) (hk : g ≠ k) (i : Nat) (v : Value) : BoxOf (w.setCell ⟨k,i,none⟩ v) g cs t:=by
 unfold BoxOf at *
 rw [Below.heap_setCell _ _ _ _ hk];exact h
theorem RdIn.setElse {w : World} {S : Nat → Prop} {t : Ty} {x : t.T} {cs : List Value} (h : RdIn w S t x cs) {k : Nat} (hS : ∀ b,S b → b ≠ k) (i : Nat) (v : Value) : RdIn (w.setCell ⟨k,i,none⟩ v) S t x cs:=
 h.apart (g:=k) hS fun p hp _=>World.cell?_of_block (Below.heap_setCell _ _ _ _ hp)
theorem msize (w : World) (a : Addr) (v : Value) : (w.setCell a v).heap.size = w.heap.size:=by simp [World.setCell]
theorem OwnL.setElse {w : World} {base : Nat} {tid : TypeId} {e : Ty} {v : Value} {xs : List e.T} (h : OwnL w base tid e v xs) {k : Nat} (hk : k < base) (i : Nat) (u : Value) : OwnL (w.setCell ⟨k,i,none⟩ u) base tid e v xs:=by
 obtain ⟨ess,hl,hr,ho⟩:=h
 refine ⟨ess,hl,fun j h h'=>((hr j h h').setElse (k:=k) (fun b hb=>by have:=hb.1;omega) i u).mono fun b hb=>⟨hb.1,by rw [msize];exact hb.2.1,hb.2.2.1,hb.2.2.2.set _ _⟩,ho.1,?_⟩
 rcases ho.2 with h2 | ⟨g,cap,cur,hv,hb,hg,hr⟩
 · exact .inl h2
 · exact .inr ⟨g,cap,cur,hv,hb,by rw [Below.heap_setCell _ _ _ _ (show g ≠ k by omega)];exact hg,hr⟩
theorem OwnL.slice {w : World} {base : Nat} {tid : TypeId} {e : Ty} {v : Value} {xs : List e.T} (h : OwnL w base tid e v xs) : ∃ A c,v = .slice A xs.length c:=by
 obtain ⟨ess,hl,hr,ho⟩:=h
 rcases ho.2 with ⟨rfl,h0⟩ | ⟨g,cap,cur,rfl,_⟩
 · exact ⟨none,0,by rw [h0]⟩
 · exact ⟨_,_,rfl⟩
theorem minfo_u8 : ∃ i,Try.prog.info? 5 = some i ∧ i.zero = some (.int .u8 0) ∧ i.size = 1 ∧ i.bytes = 1:=info_parts (by kernel_rfl)
theorem minfo_bytes : ∃ i,Try.prog.info? 26 = some i ∧ i.zero = some (.slice none 0 0) ∧ i.size = 1 ∧ i.bytes = 24:=info_parts (by kernel_rfl)
set_option maxRecDepth 100000 in
set_option maxHeartbeats 1000000 in
theorem rasktwin_any (S : Nat → Prop) (ki : UInt8) (at' many : Int) (bs : List UInt8) (A : Option Addr) (c : Nat) (w : World) (h : RdIn w S (.sl .byte) bs [.slice A bs.length c]) :
 Calls Try.prog 10 #[.agg #[.int .u8 (ki.toNat : Int),.int .i64 at',.int .i64 many,.slice A bs.length c]] w fun e w'=>∃ A' c',e = .returned (.agg #[.int .u8 (ki.toNat : Int),.int .i64 at',.int .i64 many,.slice A' bs.length c']) ∧ RdIn w' (NewB w.heap.size w') (.sl .byte) bs [.slice A' bs.length c'] ∧ Below w.heap.size w w':=by
 obtain ⟨i0,hi,hz0,hz1,hz2⟩:=minfo_u8
 have P0:=BoxOf.alloc (BoxOf.new w #[.int .u8 (ki.toNat : Int),.int .i64 at',.int .i64 many,.slice A bs.length c] 28) (.cells #[.int .u8 0,.int .i64 0,.int .i64 0,.slice none 0 0] 28)
 have Z0:=BoxOf.new' (w.alloc (.cells #[.int .u8 (ki.toNat : Int),.int .i64 at',.int .i64 many,.slice A bs.length c] 28)) (w.heap.size + 1) #[.int .u8 0,.int .i64 0,.int .i64 0,.slice none 0 0] 28 (by simp)
 have t0:=Ext.alloc (Ext.alloc (Below.refl w.heap.size w) (.cells #[.int .u8 (ki.toNat : Int),.int .i64 at',.int .i64 many,.slice A bs.length c] 28)) (.cells #[.int .u8 0,.int .i64 0,.int .i64 0,.slice none 0 0] 28)
 have h0:=h.below t0
 clear h
 go_enter Try.func10,Try.ntmps10
 go_upto_region 1 with fail
 generalize (w.alloc (.cells #[.int .u8 (ki.toNat : Int),.int .i64 at',.int .i64 many,.slice A bs.length c] 28)).alloc (.cells #[.int .u8 0,.int .i64 0,.int .i64 0,.slice none 0 0] 28) = W at *
 have x0:=P0.cell
 have f0:=P0.free
 go_wp2_with (at_builtin;refine wpList_copyL rfl (.const (.slice none 0 0)) (.tmp 4) 26 rfl 5 i0 _ .byte rfl Try.underlying26 hi hz0 hz1 hz2 rfl rfl S bs A bs.length c rfl h0 ?_;intro v1 w1 r1 b1;obtain ⟨A',c',rfl,_⟩:=r1.bytes;have P1:=P0.next b1;have Z1:=Z0.next b1;have t1:=Ext.trans t0 b1;have x1:=P1.cell;have f1:=P1.free;have z1:=Z1.cell;have g1:=Z1.free;have lz:=Z0.lt;clear b1 x0 f0 h0)
 have Z2:=mbox_self (mbox_self (mbox_self (mbox_self (mbox_else Z1 (show w.heap.size + 1 ≠ w.heap.size by omega) 3 (.slice A' bs.length c')) 0 (.int .u8 (ki.toNat : Int))) 1 (.int .i64 at')) 2 (.int .i64 many)) 3 (.slice A' bs.length c')
 have t2:=Below.setCell (p:=⟨w.heap.size + 1,3,none⟩) (Below.setCell (p:=⟨w.heap.size + 1,2,none⟩) (Below.setCell (p:=⟨w.heap.size + 1,1,none⟩) (Below.setCell (p:=⟨w.heap.size + 1,0,none⟩) (Below.setCell (p:=⟨w.heap.size,3,none⟩) t1 (Nat.le_refl _) (.slice A' bs.length c')) (show w.heap.size ≤ w.heap.size + 1 by omega) (.int .u8 (ki.toNat : Int))) (show w.heap.size ≤ w.heap.size + 1 by omega) (.int .i64 at')) (show w.heap.size ≤ w.heap.size + 1 by omega) (.int .i64 many)) (show w.heap.size ≤ w.heap.size + 1 by omega) (.slice A' bs.length c')
 have r2:=((((r1.setElse (k:=w.heap.size) (fun b hb=>by have:=hb.1;omega) 3 (.slice A' bs.length c')).setElse (k:=w.heap.size + 1) (fun b hb=>by have:=hb.1;omega) 0 (.int .u8 (ki.toNat : Int))).setElse (k:=w.heap.size + 1) (fun b hb=>by have:=hb.1;omega) 1 (.int .i64 at')).setElse (k:=w.heap.size + 1) (fun b hb=>by have:=hb.1;omega) 2 (.int .i64 many)).setElse (k:=w.heap.size + 1) (fun b hb=>by have:=hb.1;omega) 3 (.slice A' bs.length c')
 have hsz : w.heap.size ≤ W.heap.size:=t0.size
 refine bodyPost_ret (v:=.agg #[.int .u8 (ki.toNat : Int),.int .i64 at',.int .i64 many,.slice A' bs.length c']) (results_cell_row rfl _ _ (w.heap.size + 1) 28 #[.int .u8 (ki.toNat : Int),.int .i64 at',.int .i64 many,.slice A' bs.length c'] (0,0) _ rfl Z2 Try.underlying28 rfl (by kernel_rfl)) rfl ⟨A',c',rfl,r2.mono fun b hb=>⟨by have:=hb.1;omega,by simp only [msize];exact hb.2.1,((((hb.2.2.set _ _).set _ _).set _ _).set _ _).set _ _⟩,t2⟩
end Go.Proofs.Ythapabjlhooglaa
namespace Go.Proofs.Ythapabjlhooglaa
open Go Go.RowKit
set_option linter.unusedSimpArgs false
set_option linter.unusedVariables false
theorem view2 {w : World} {S : Nat → Prop} {ys : List (List UInt8)} {v : Value} (h : RdIn w S (.sl (.sl .byte)) ys [v]) : ∃ A c,v = .slice A ys.length c ∧ ys.length ≤ maxLen ∧ ys.length * 24 ≤ 140737488355328 ∧ (0 < ys.length → ∃ b off,A = some ⟨b,off,none⟩ ∧ S b ∧ ∀ i (hi : i < ys.length),∃ A' c',w.cell? ⟨b,off + i,none⟩ = some (.slice A' ys[i].length c') ∧ RdIn w S (.sl .byte) ys[i] [.slice A' ys[i].length c']):=by
 obtain ⟨A,c,h1,h2,h3,h4,h5⟩:=lists_view h
 exact ⟨A,c,h1,Nat.le_trans h2 h3,h4,h5⟩
theorem rd_row (w : World) (C : Array Value) (t : TypeId) : Rd (w.alloc (.cells C t)) (some ⟨w.heap.size,0,none⟩) C.toList:=.inr ⟨w.heap.size,0,rfl,fun o ho=>by
 rw [Nat.zero_add,World.cell?_alloc_mark]
 simp⟩
theorem RdIn.grownBy {w w' : World} {S : Nat → Prop} {t : Ty} {x : t.T} {cs : List Value} {row : Option Nat} (h : RdIn w S t x cs) (hg : w.grownBy w' row) (hS : ∀ b,S b → row ≠ some b) : RdIn w' S t x cs:=
 h.keep (fun p v hs hv=>⟨hg.cell hv (fun e=>hS _ hs e.symm),hs⟩) (fun _ h=>h)
theorem round_same {j : Nat} (h : Hid (wrap64 ((j : Int) + 1) = ((j + 1 : Nat) : Int))) : Value.int .i64 (wrap64 ((j : Int) + 1)) = .int .i64 ((j + 1 : Nat) : Int):=congrArg (Value.int .i64) h
theorem round_less {n j : Nat} (h : Hid (wrap64 ((j : Int) + 1) = ((j + 1 : Nat) : Int))) (hl : j < n) : n - (intOf (.int .i64 (wrap64 ((j : Int) + 1)))).toNat < n - (intOf (.int .i64 (j : Int))).toNat:=by
 have e : intOf (.int .i64 (wrap64 ((j : Int) + 1))) = ((j + 1 : Nat) : Int):=(congrArg (fun z=>intOf (Value.int .i64 z)) h).trans rfl
 rw [e]
 show n - (((j + 1 : Nat) : Int)).toNat < n - ((j : Int)).toNat
 omega
theorem OwnL.cast {w : World} {base : Nat} {tid : TypeId} {e : Ty} {v : Value} {xs ys : List e.T} (he : xs = ys) (h : OwnL w base tid e v xs) : OwnL w base tid e v ys:=he ▸ h
theorem OwnL.lt {w : World} {base : Nat} {tid : TypeId} {e : Ty} {v : Value} {xs : List e.T} (h : OwnL w base tid e v xs) : ∀ r,v.ownBlock = some r → r < w.heap.size:=by
 obtain ⟨_,_,_,ho⟩:=h
 exact fun r hr=>own_lt ho hr
end Go.Proofs.Ythapabjlhooglaa
namespace Go.Proofs.Ythapabjlhooglaa
open Go Go.RowKit
set_option linter.unusedVariables false
structure ElemP (α : Type) (n : Nat) where
 E : World → (Nat → Prop) → α → List Value → Prop
 frame : ∀ {w w' : World} {S : Nat → Prop} {x : α} {es : List Value},E w S x es → (∀ b,S b → w'.heap[b]? = w.heap[b]?) → E w' S x es
 mono : ∀ {w : World} {S S' : Nat → Prop} {x : α} {es : List Value},E w S x es → (∀ b,S b → S' b) → E w S' x es
 len : ∀ {w : World} {S : Nat → Prop} {x : α} {es : List Value},E w S x es → es.length = n
 plain : ∀ {w : World} {S : Nat → Prop} {x : α} {es : List Value},E w S x es → ∀ u ∈ es,u.oneCell' = true
def OwnE {α : Type} {n : Nat} (P : ElemP α n) (w : World) (F : Nat → Prop) (base : Nat) (tid : TypeId) (v : Value) (xs : List α) : Prop:=
 ∃ (ess : List (List Value)) (Sf : Nat → Nat → Prop),ess.length = xs.length ∧ (∀ i (h : i < xs.length) (h' : i < ess.length),P.E w (Sf i) xs[i] ess[i]) ∧
  (∀ i b,Sf i b → F b ∧ v.ownBlock ≠ some b) ∧ (∀ i j b,Sf i b → Sf j b → i = j) ∧ (∀ r,v.ownBlock = some r → F r) ∧ w.ownsRow base tid n v xs.length ess.flatten
section
variable {α : Type} {n : Nat} {P : ElemP α n} {w w' : World} {F F' : Nat → Prop} {base : Nat} {tid : TypeId} {v : Value} {xs : List α}
theorem OwnE.nil (P : ElemP α n) (w : World) (F : Nat → Prop) (base : Nat) (tid : TypeId) : OwnE P w F base tid (.slice none 0 0) []:=
 ⟨[],fun _ _=>False,rfl,fun i h=>absurd h (by simp),fun _ _ h=>h.elim,fun _ _ _ h=>h.elim,fun r h=>absurd h (by simp [Value.ownBlock]),by simp,.inl ⟨rfl,rfl⟩⟩
theorem own_frame {base e n : Nat} {size : Nat} {v : Value} {xs : List Value} (h : w.ownsRow base e size v n xs) (hf : ∀ r,v.ownBlock = some r → w'.heap[r]? = w.heap[r]?) : w'.ownsRow base e size v n xs:=by
 refine ⟨h.1,?_⟩
 rcases h.2 with h2 | ⟨g,cap,cur,hv,hg,hr,hrest⟩
 · exact .inl h2
 · exact .inr ⟨g,cap,cur,hv,hg,by rw [hf g (by rw [hv];rfl)];exact hr,hrest⟩
theorem OwnE.frame (h : OwnE P w F base tid v xs) (hf : ∀ b,F b → w'.heap[b]? = w.heap[b]?) : OwnE P w' F base tid v xs:=by
 obtain ⟨ess,Sf,h1,h2,h3,h4,h5,h6⟩:=h
 exact ⟨ess,Sf,h1,fun i hi hi'=>P.frame (h2 i hi hi') fun b hb=>hf b (h3 i b hb).1,h3,h4,h5,own_frame h6 fun r hr=>hf r (h5 r hr)⟩
theorem OwnE.mono (h : OwnE P w F base tid v xs) (hF : ∀ b,F b → F' b) : OwnE P w F' base tid v xs:=by
 obtain ⟨ess,Sf,h1,h2,h3,h4,h5,h6⟩:=h
 exact ⟨ess,Sf,h1,h2,fun i b hb=>⟨hF b (h3 i b hb).1,(h3 i b hb).2⟩,h4,fun r hr=>hF r (h5 r hr),h6⟩
theorem OwnE.next (h : OwnE P w F base tid v xs) (hF : ∀ b,F b → b < w.heap.size) (hb : Below w.heap.size w w') : OwnE P w' F base tid v xs:=
 h.frame fun b hb'=>hb.block b (hF b hb')
theorem OwnE.setElse (h : OwnE P w F base tid v xs) {k : Nat} (hk : ¬ F k) (i : Nat) (u : Value) : OwnE P (w.setCell ⟨k,i,none⟩ u) F base tid v xs:=
 h.frame fun b hb=>Below.heap_setCell _ _ _ _ (fun e=>hk (by have e' : b = k:=e;rw [← e'];exact hb))
theorem OwnE.cast {ys : List α} (he : xs = ys) (h : OwnE P w F base tid v xs) : OwnE P w F base tid v ys:=he ▸ h
theorem OwnE.own (h : OwnE P w F base tid v xs) : ∃ ess : List (List Value),ess.length = xs.length ∧ w.ownsRow base tid n v xs.length ess.flatten:=by
 obtain ⟨ess,Sf,h1,_,_,_,_,h6⟩:=h
 exact ⟨ess,h1,h6⟩
theorem OwnE.lt (h : OwnE P w F base tid v xs) : ∀ r,v.ownBlock = some r → r < w.heap.size:=by
 obtain ⟨_,_,h⟩:=h.own
 exact fun r hr=>own_lt h hr
theorem OwnE.base_le (h : OwnE P w F base tid v xs) : ∀ r,v.ownBlock = some r → base ≤ r:=by
 obtain ⟨_,_,h⟩:=h.own
 exact fun r hr=>own_block h hr
theorem OwnE.slice (h : OwnE P w F base tid v xs) : ∃ A c,v = .slice A xs.length c:=by
 obtain ⟨_,_,h⟩:=h.own
 rcases h.2 with ⟨rfl,h0⟩ | ⟨g,cap,cur,rfl,_⟩
 · exact ⟨none,0,by rw [h0]⟩
 · exact ⟨_,_,rfl⟩
end
section
variable {P : Program} {w : World}
theorem wp_pushE {α : Type} {n : Nat} {EP : ElemP α n} {o : Oper} {a : Act} {K : Act → World → Prop} {Q : Exit → Act → World → Prop} (s x : Operand) (t : TypeId)
 (ho : o.op = .call { callee:=.builtin .append,args:=#[s,x],argTypes:=#[t,t] })
 (base : Nat) (tid : TypeId) (i : TypeInfo) (z : Value) (bytes : Nat) (ht : P.underlying t = some (.slice tid)) (hi : P.info? tid = some i) (hz : i.zero = some z)
 (hsize : i.size = n) (hby : i.bytes = bytes) (hzs : z.cells.size = n) (hsz : 0 < n)
 (v : Value) (xs : List α) (F T : Nat → Prop) (hs : a.eval s = v) (hown : OwnE EP w F base tid v xs) (hF : ∀ b,F b → b < w.heap.size)
 (A : Option Addr) (c : Nat) (news : List Value) (hx : a.eval x = .slice A 1 c) (hr : Rd w A news) (y : α) (hy : EP.E w T y news) (hT : ∀ b,T b → ¬ F b ∧ b < w.heap.size)
 (h63 : xs.length + 1 ≤ maxLen) (hbytes : (xs.length + 1) * bytes ≤ 140737488355328) (hbase : base ≤ w.heap.size)
 (h : ∀ v' w',OwnE EP w' (fun b=>F b ∨ T b ∨ v'.ownBlock = some b) base tid v' (xs ++ [y]) → w.grownBy w' v.ownBlock → (∀ r,v.ownBlock = some r → base ≤ r) → K (a.put o.dst v') w') : o.wp P a w K Q:=by
 obtain ⟨ess,Sf,hl,hre,hS,hdis,hown1,ho2⟩:=hown
 refine wp_append_rd w s x t ho base tid i z n bytes ht hi hz hsize hby hzs hsz v _ _ hs ho2 A 1 c news hx (by rw [EP.len hy];omega) hr (EP.plain hy) h63 hbytes hbase ?_
 intro v' w' h2 h3 h4
 have sameF : ∀ b,F b → v.ownBlock ≠ some b → w'.heap[b]? = w.heap[b]?:=fun b hb hne=>h3.block b (hF b hb) (fun e=>hne e.symm)
 have sameT : ∀ b,T b → w'.heap[b]? = w.heap[b]?:=fun b hb=>h3.block b (hT b hb).2 (fun e=>(hT b hb).1 (hown1 b e.symm))
 have hv' : ∀ b,v'.ownBlock = some b → v.ownBlock = some b ∨ b = w.heap.size:=fun b hb=>by
  rcases h4 with h4 | h4
  · exact .inl (h4 ▸ hb)
  · rw [h4] at hb;exact .inr (Option.some.inj hb).symm
 refine h v' w' ⟨ess ++ [news],fun j b=>if j < xs.length then Sf j b else j = xs.length ∧ T b,by simp [hl],fun j h5 h6=>?_,fun j b hb=>?_,fun j k b hj hk=>?_,fun r hr=>?_,?_⟩ h3 (fun r e=>own_block ho2 e)
 · rw [List.length_append,List.length_singleton] at h5
   by_cases hj : j < xs.length
   · rw [List.getElem_append_left hj,List.getElem_append_left (by omega)]
     have h7:=EP.frame (hre j hj (by omega)) (fun b hb=>sameF b (hS j b hb).1 (hS j b hb).2)
     exact EP.mono h7 fun b hb=>by simp only [hj,if_true];exact hb
   · have : j = xs.length:=by omega
     subst this
     simp only [List.getElem_append_right (Nat.le_refl _),← hl,Nat.sub_self,List.getElem_singleton]
     simp only [hl]
     have e1 : (xs ++ [y])[xs.length]'(by simp) = y:=by simp
     rw [e1]
     exact EP.mono (EP.frame hy sameT) fun b hb=>by simp;exact hb
 · by_cases hj : j < xs.length
   · simp only [hj,if_true] at hb
     refine ⟨.inl (hS j b hb).1,fun e=>?_⟩
     rcases hv' b e with e | e
     · exact (hS j b hb).2 e
     · have:=hF b (hS j b hb).1;omega
   · simp only [hj,if_false] at hb
     refine ⟨.inr (.inl hb.2),fun e=>?_⟩
     rcases hv' b e with e | e
     · exact (hT b hb.2).1 (hown1 b e)
     · have:=(hT b hb.2).2;omega
 · by_cases h5 : j < xs.length <;> by_cases h6 : k < xs.length <;> simp only [h5,h6,if_true,if_false] at hj hk
   · exact hdis j k b hj hk
   · exact absurd (hS j b hj).1 (hT b hk.2).1
   · exact absurd (hS k b hk).1 (hT b hj.2).1
   · omega
 · exact .inr (.inr hr)
 · rw [List.length_append,List.length_singleton,List.flatten_append]
   simpa using h2
end
def Iv (lo hi : Nat) (b : Nat) : Prop:=lo ≤ b ∧ b < hi
theorem OwnE.step {α : Type} {n : Nat} {P : ElemP α n} {w w' : World} {base lo : Nat} {tid : TypeId} {v : Value} {xs : List α} (h : OwnE P w (Iv lo w.heap.size) base tid v xs) (hb : Below w.heap.size w w') : OwnE P w' (Iv lo w'.heap.size) base tid v xs:=
 (h.next (fun b hb'=>hb'.2) hb).mono fun b hb'=>⟨hb'.1,Nat.lt_of_lt_of_le hb'.2 hb.size⟩
section
variable {P : Program} {w : World}
theorem wp_pushI {α : Type} {n : Nat} {EP : ElemP α n} {o : Oper} {a : Act} {K : Act → World → Prop} {Q : Exit → Act → World → Prop} (s x : Operand) (t : TypeId)
 (ho : o.op = .call { callee:=.builtin .append,args:=#[s,x],argTypes:=#[t,t] })
 (base lo : Nat) (tid : TypeId) (i : TypeInfo) (z : Value) (bytes : Nat) (ht : P.underlying t = some (.slice tid)) (hi : P.info? tid = some i) (hz : i.zero = some z)
 (hsize : i.size = n) (hby : i.bytes = bytes) (hzs : z.cells.size = n) (hsz : 0 < n)
 (v : Value) (xs : List α) (hs : a.eval s = v) (hown : OwnE EP w (Iv base lo) base tid v xs) (hlo : lo ≤ w.heap.size) (hbl : base ≤ lo)
 (A : Option Addr) (c : Nat) (news : List Value) (hx : a.eval x = .slice A 1 c) (hr : Rd w A news) (y : α) (hy : EP.E w (Iv lo w.heap.size) y news)
 (h63 : xs.length + 1 ≤ maxLen) (hbytes : (xs.length + 1) * bytes ≤ 140737488355328)
 (h : ∀ v' w',OwnE EP w' (Iv base w'.heap.size) base tid v' (xs ++ [y]) → w.grownBy w' v.ownBlock → (∀ r,v.ownBlock = some r → base ≤ r) → K (a.put o.dst v') w') : o.wp P a w K Q:=
 wp_pushE s x t ho base tid i z bytes ht hi hz hsize hby hzs hsz v xs _ (Iv lo w.heap.size) hs hown (fun b hb=>Nat.lt_of_lt_of_le hb.2 hlo) A c news hx hr y hy (fun b hb=>⟨fun hf=>by have h1:=hf.2;have h2:=hb.1;omega,hb.2⟩) h63 hbytes (Nat.le_trans hbl hlo) fun v' w' h1 h2 h3=>
  h v' w' (h1.mono fun b hb=>by
   have hs:=h2.size
   rcases hb with hb | hb | hb
   · exact ⟨hb.1,by have:=hb.2;omega⟩
   · exact ⟨by have:=hb.1;omega,by have:=hb.2;omega⟩
   · exact ⟨h1.base_le b hb,h1.lt b hb⟩) h2 h3
theorem wpList_pushI {α : Type} {n : Nat} {EP : ElemP α n} {ops : Array Oper} {rest : List Oper} {o : Oper} {a : Act} {Q : Exit → Act → World → Prop} (hgd : o.guard = none) (s x : Operand) (t : TypeId)
 (ho : o.op = .call { callee:=.builtin .append,args:=#[s,x],argTypes:=#[t,t] })
 (base lo : Nat) (tid : TypeId) (i : TypeInfo) (z : Value) (bytes : Nat) (ht : P.underlying t = some (.slice tid)) (hi : P.info? tid = some i) (hz : i.zero = some z)
 (hsize : i.size = n) (hby : i.bytes = bytes) (hzs : z.cells.size = n) (hsz : 0 < n)
 (v : Value) (xs : List α) (hs : a.eval s = v) (hown : OwnE EP w (Iv base lo) base tid v xs) (hlo : lo ≤ w.heap.size) (hbl : base ≤ lo)
 (A : Option Addr) (c : Nat) (news : List Value) (hx : a.eval x = .slice A 1 c) (hr : Rd w A news) (y : α) (hy : EP.E w (Iv lo w.heap.size) y news)
 (h63 : xs.length + 1 ≤ maxLen) (hbytes : (xs.length + 1) * bytes ≤ 140737488355328)
 (h : ∀ v' w',OwnE EP w' (Iv base w'.heap.size) base tid v' (xs ++ [y]) → w.grownBy w' v.ownBlock → (∀ r,v.ownBlock = some r → base ≤ r) → wpList P ops Q rest (a.put o.dst v') w') : wpList P ops Q (o :: rest) a w:=
 wpList_plain hgd fun _ hK=>wp_pushI s x t ho base lo tid i z bytes ht hi hz hsize hby hzs hsz v xs hs hown hlo hbl A c news hx hr y hy h63 hbytes fun v' w' h2 h3 h4=>hK _ _ (h v' w' h2 h3 h4)
end
theorem RdIn.frame {w w' : World} {S : Nat → Prop} {t : Ty} {x : t.T} {cs : List Value} (h : RdIn w S t x cs) (hf : ∀ b,S b → w'.heap[b]? = w.heap[b]?) : RdIn w' S t x cs:=
 h.keep (fun p v hs hv=>⟨by rw [World.cell?_of_block (w:=w) (a:=p) (hf _ hs)];exact hv,hs⟩) (fun _ h=>h)
def MarksO (w : World) (S : Nat → Prop) (tid : TypeId) (u : Value) (ms : List Int) : Prop:=
 (ms = [] ∧ ∃ A c,u = .slice A 0 c ∧ c ≤ maxLen) ∨ ∃ g cap cur,u = .slice (some ⟨g,0,none⟩) ms.length cap ∧ S g ∧ w.heap[g]? = some (.cells cur tid (0,0)) ∧ ms.length ≤ cap ∧ cap ≤ maxLen ∧ cur.size = cap ∧ cur.toList.take ms.length = ms.map (fun x=>Value.int .i64 x)
theorem OwnE.rdin {e : Ty} {P : ElemP e.T e.size} {w : World} {F : Nat → Prop} {base : Nat} {tid : TypeId} {v : Value} {xs : List e.T} (h : OwnE P w F base tid v xs) (hP : ∀ (S : Nat → Prop) (x : e.T) (es : List Value),P.E w S x es → RdIn w (fun b=>S b ∧ Live w b) e x es) (hz : xs.length * e.bytes ≤ 140737488355328) : RdIn w (fun b=>F b ∧ Live w b) (.sl e) xs [v]:=by
 obtain ⟨ess,Sf,hl,hr,hS,_,hF,ho⟩:=h
 have hes : ∀ es ∈ ess,es.length = e.size:=by
  intro es he
  obtain ⟨i,hi,rfl⟩:=List.getElem_of_mem he
  exact P.len (hr i (by omega) hi)
 rcases ho.2 with ⟨rfl,h0⟩ | ⟨g,cap,cur,rfl,hb,hg,hn,hm,hsz,htk⟩
 · have hx : xs = []:=List.eq_nil_of_length_eq_zero h0
   subst hx
   exact rdin_sl.2 ⟨none,0,rfl,by simp,by simp [maxLen],by simp,.inl rfl⟩
 · refine rdin_sl.2 ⟨some ⟨g,0,none⟩,cap,rfl,hn,hm,hz,.inr ⟨g,0,rfl,⟨hF g rfl,_,_,hg⟩,fun i hi=>⟨ess[i]'(by omega),fun j hj=>?_,(hP _ _ _ (hr i hi (by omega))).mono fun b hb=>⟨(hS i b hb.1).1,hb.2⟩⟩⟩⟩
   have h1:=flatten_at ess hes i j hj
   rw [List.getElem?_eq_getElem (show i < ess.length by omega)] at h1
   show w.cell? ⟨g,0 + i * e.size + j,none⟩ = _
   rw [Nat.zero_add,cell_of_row w g _ cur tid (0,0) hg]
   have h2 : i * e.size + j < xs.length * e.size:=by
    have : (i + 1) * e.size ≤ xs.length * e.size:=Nat.mul_le_mul_right _ (by omega)
    rw [Nat.add_mul] at this
    omega
   rw [← htk,List.getElem?_take,if_pos h2] at h1
   simpa using h1
theorem MarksO.rd {w : World} {S : Nat → Prop} {tid : TypeId} {u : Value} {ms : List Int} (h : MarksO w S tid u ms) (hi : ∀ x ∈ ms,IsInt x) (hz : ms.length * 8 ≤ 140737488355328) : RdIn w (fun b=>S b ∧ Live w b) (.sl .int) ms [u]:=by
 rcases h with ⟨rfl,A,c,rfl,hc⟩ | ⟨g,cap,cur,rfl,hg,hh,h1,h2,h3,h4⟩
 · exact rdin_sl.2 ⟨A,c,rfl,Nat.zero_le c,hc,(show ([] : List Int).length * 8 ≤ 140737488355328 by decide),.inl rfl⟩
 · refine rdin_sl.2 ⟨some ⟨g,0,none⟩,cap,rfl,h1,h2,hz,.inr ⟨g,0,rfl,⟨hg,_,_,hh⟩,fun i hi'=>⟨[.int .i64 (ms[i]'hi')],fun j hj=>?_,rdin_int.2 ⟨rfl,hi _ (List.getElem_mem hi')⟩⟩⟩⟩
   have hj0 : j = 0:=by have : j < 1:=hj;omega
   subst hj0
   have hi2 : i < ms.length:=hi'
   show w.cell? ⟨g,0 + i * 1 + 0,none⟩ = _
   rw [Nat.zero_add,Nat.mul_one,Nat.add_zero,cell_of_row w g _ cur tid (0,0) hh]
   have h5 : (ms.map (fun x=>Value.int .i64 x))[i]? = some (.int .i64 ms[i]):=by simp [hi2]
   rw [← h4,List.getElem?_take,if_pos hi2] at h5
   simp at h5
   exact h5
end Go.Proofs.Ythapabjlhooglaa
namespace Go.Proofs.Ythapabjlhooglaa
open Go Go.RowKit
set_option linter.unusedSimpArgs false
set_option linter.unusedVariables false
structure Within (lo hi : Nat) (w w' : World) : Prop where
 below : Below lo w w'
 above : ∀ b,hi ≤ b → b < w.heap.size → w'.heap[b]? = w.heap[b]?
theorem Within.refl (lo hi : Nat) (w : World) : Within lo hi w w:=⟨Below.refl _ _,fun _ _ _=>rfl⟩
theorem Within.alloc {lo hi : Nat} {w w' : World} (h : Within lo hi w w') (hl : lo ≤ w.heap.size) (o : Obj) : Within lo hi w (w'.alloc o):=
 ⟨h.below.alloc (Nat.le_trans hl h.below.size) o,fun b h1 h2=>(Below.heap_alloc w' o b (Nat.lt_of_lt_of_le h2 h.below.size)).trans (h.above b h1 h2)⟩
theorem Within.setCell {lo hi : Nat} {w w' : World} (h : Within lo hi w w') {p : Addr} (hp : lo ≤ p.block ∧ p.block < hi) (u : Value) : Within lo hi w (w'.setCell p u):=
 ⟨h.below.setCell hp.1 u,fun b h1 h2=>(Below.heap_setCell w' p u b (by have:=hp.2;omega)).trans (h.above b h1 h2)⟩
theorem Within.drew {lo hi : Nat} {w w' : World} (h : Within lo hi w w') : Within lo hi w w'.drew:=⟨h.below.drew,h.above⟩
theorem Within.cell {lo hi : Nat} {w w' : World} (h : Within lo hi w w') {p : Addr} (hp : p.block < lo ∨ hi ≤ p.block) (hl : p.block < w.heap.size) : w'.cell? p = w.cell? p:=
 World.cell?_of_block (w:=w) (hp.elim (fun h1=>h.below.block _ h1) (fun h1=>h.above _ h1 hl))
theorem RdIn.within {lo hi : Nat} {w w' : World} (hw : Within lo hi w w') {S : Nat → Prop} {t : Ty} {x : t.T} {cs : List Value} (h : RdIn w S t x cs) (hS : ∀ b,S b → b < lo ∨ hi ≤ b) : RdIn w' S t x cs:=
 h.keep (fun p v hs hv=>⟨(hw.cell (hS _ hs) (block_lt_of_cell hv)).trans hv,hs⟩) (fun _ h=>h)
def InL (w : World) (lo hi : Nat) (b : Nat) : Prop:=(lo ≤ b ∧ b < hi) ∧ Live w b
def ShpL (w : World) (lo hi : Nat) (t : Ty) (cs : List Value) : Prop:=∃ x : t.T,RdIn w (InL w lo hi) t x cs
theorem ShpL.num {w : World} {lo hi : Nat} {t : Ty} {cs : List Value} (h : ShpL w lo hi t cs) {a : Addr} {k : IntKind} {n n' : Int} (hc : w.cell? a = some (.int k n)) (hk : InK k n') : ShpL (w.setCell a (.int k n')) lo hi t cs:=by
 obtain ⟨x,hx⟩:=h
 obtain ⟨x',hx'⟩:=RdIn.numbers (numAt_set hc hk) t hx (Like.refl cs)
 exact ⟨x',hx'.mono fun b hb=>⟨hb.1,hb.2.set _ _⟩⟩
theorem ShpL.below {w w' : World} {lo hi : Nat} {t : Ty} {cs : List Value} (h : ShpL w lo hi t cs) (hb : Below w.heap.size w w') : ShpL w' lo hi t cs:=by
 obtain ⟨x,hx⟩:=h
 exact ⟨x,(hx.below hb).mono fun b h=>⟨h.1,h.2.below hb⟩⟩
theorem ShpL.may {w : World} {lo hi : Nat} {cs : List Value} (h : ShpL w lo hi (.sl (.sl (.sl .byte))) cs) : ∃ ys : List (List (List UInt8)),RdIn w (InL w lo hi) (.sl (.sl (.sl .byte))) ys cs:=h
theorem keep_slice {w : World} {a p : Addr} {k : IntKind} {n n' : Int} {A : Option Addr} {l c : Nat} (hc : w.cell? a = some (.int k n)) (hp : w.cell? p = some (.slice A l c)) : (w.setCell a (.int k n')).cell? p = some (.slice A l c):=by
 rw [World.cell?_setCell_other (h:=fun e=>by subst e;rw [hc] at hp;cases hp)]
 exact hp
theorem wrap_u8 (n : Int) : InK .u8 (IntKind.u8.wrap n):=by
 show 0 ≤ IntKind.u8.wrap n ∧ IntKind.u8.wrap n < 256
 have e : IntKind.u8.wrap n = n % 256:=by simp [IntKind.wrap,IntKind.bits,IntKind.signed]
 rw [e]
 omega
end Go.Proofs.Ythapabjlhooglaa
namespace Go.Proofs.Ythapabjlhooglaa
open Go Go.RowKit
set_option linter.unusedSimpArgs false
set_option linter.unusedVariables false
def nuOf (g : GoTy.T) : Int:=(show Int × (UInt8 × Int × Int × List UInt8 × Unit) × List Int × Unit from g).1
def kiOf (g : GoTy.T) : UInt8:=(show Int × (UInt8 × Int × Int × List UInt8 × Unit) × List Int × Unit from g).2.1.1
def atOf (g : GoTy.T) : Int:=(show Int × (UInt8 × Int × Int × List UInt8 × Unit) × List Int × Unit from g).2.1.2.1
def manyOf (g : GoTy.T) : Int:=(show Int × (UInt8 × Int × Int × List UInt8 × Unit) × List Int × Unit from g).2.1.2.2.1
def datOf (g : GoTy.T) : List UInt8:=(show Int × (UInt8 × Int × Int × List UInt8 × Unit) × List Int × Unit from g).2.1.2.2.2.1
def mksOf (g : GoTy.T) : List Int:=(show Int × (UInt8 × Int × Int × List UInt8 × Unit) × List Int × Unit from g).2.2.1
section
variable {w : World} {S : Nat → Prop}
theorem val_at {ys : List (List UInt8)} {A : Option Addr} {c : Nat} (h : RdIn w S (.sl (.sl .byte)) ys [.slice A ys.length c]) {k : Nat} (hk : k < ys.length) :
 ∃ b off A2 c2,A = some ⟨b,off,none⟩ ∧ w.cell? ⟨b,off + k,none⟩ = some (.slice A2 (ys[k]'hk).length c2) ∧ RdIn w S (.sl .byte) (ys[k]'hk) [.slice A2 (ys[k]'hk).length c2]:=by
 obtain ⟨A1,c1,e1,_,_,hr1⟩:=view2 h
 injection e1 with e11 e12 e13
 obtain ⟨b,off,e2,_,hrow⟩:=hr1 (by omega)
 obtain ⟨A2,c2,q2,r2⟩:=hrow k hk
 exact ⟨b,off,A2,c2,e11.trans e2,q2,r2⟩
theorem val_max {ys : List (List UInt8)} {v : Value} (h : RdIn w S (.sl (.sl .byte)) ys [v]) : ys.length ≤ maxLen:=by
 obtain ⟨_,_,_,h1,_⟩:=view2 h
 exact h1
theorem byte_max {bs : List UInt8} {v : Value} (h : RdIn w S (.sl .byte) bs [v]) : bs.length ≤ maxLen:=by
 obtain ⟨_,_,_,h1,h2,_⟩:=rdin_sl.1 h
 exact Nat.le_trans h1 h2
end
theorem next_wrap {j n : Nat} (h : n ≤ maxLen) (hj : j < n) : Hid (wrap64 ((j : Int) + 1) = ((j + 1 : Nat) : Int)):=by
 show _ = _
 rw [IntWalk.wrap64_in _ (by unfold maxLen at h;omega)]
 omega
end Go.Proofs.Ythapabjlhooglaa
namespace Go.Proofs.Ythapabjlhooglaa
open Go.RowKit
structure Cfg where
 id : Nat
 m : Int
 c : Int
 r : Int
 l : Int
 h : Int
def Cfg.val (x : Cfg) : Value:=.agg #[.int .u32 (x.id : Int),.int .i64 x.m,.int .i64 x.c,.int .i64 x.r,.int .i64 x.l,.int .i64 x.h]
def Cfg.Plain (x : Cfg) : Prop:=3 ≤ x.m ∧ x.m ≤ 16 ∧ 1 ≤ x.c ∧ x.c ≤ 8 ∧ 1 ≤ x.r ∧ x.r ≤ 8 ∧ 2 ≤ x.h ∧ x.h ≤ 8
def Cfg.Ok (x : Cfg) : Prop:=x.Plain ∧ (x.m + 1) * (x.h + 1) ≤ x.l ∧ x.l ≤ 255
instance (x : Cfg) : Decidable x.Plain:=by unfold Cfg.Plain;infer_instance
instance (x : Cfg) : Decidable x.Ok:=by unfold Cfg.Ok;infer_instance
def Cfg.code (x : Cfg) : Int:=if x.Ok then 0 else 8
theorem Cfg.code_ok {x : Cfg} (h : x.Ok) : x.code = 0:=if_pos h
theorem Cfg.code_bad {x : Cfg} (h : ¬ x.Ok) : x.code = 8:=if_neg h
def rowOk (r : Int × Int × Int) : Bool:=decide (r.2.1 ≤ r.1) && decide (r.1 ≤ r.2.2)
theorem bounds_any (g c : Nat) (rows : List (Int × Int × Int)) (w : World) (hn : rows.length ≤ 100)
 (hc : ∀ i (hi : i < rows.length),w.cell? ⟨g,i * 3,none⟩ = some (.int .i64 rows[i].1) ∧ w.cell? ⟨g,i * 3 + 1,none⟩ = some (.int .i64 rows[i].2.1) ∧ w.cell? ⟨g,i * 3 + 2,none⟩ = some (.int .i64 rows[i].2.2)) :
 Calls Try.prog 79 #[.slice (some ⟨g,0,none⟩) rows.length c] w fun e w'=>e = .returned (.bool (rows.all rowOk)) ∧ Below w.heap.size w w':=by
 have HC:=Lib.hid hc
 clear hc
 go_enter Try.func79,Try.ntmps79
 go_wp2
 go_loopw [7] (fun i wr=>∃ k : Nat,k ≤ rows.length ∧ i = .int .i64 k ∧ (rows.take k).all rowOk = true ∧ Below w.heap.size w wr) (fun i _=>rows.length - (intOf i).toNat)
 case atStart=>exact ⟨0,by omega,rfl,rfl,Below.refl _ _⟩
 case round=>
  obtain ⟨k,hk,rfl,hall,hb⟩:=hrel
  by_cases hlt : k < rows.length
  · have hall' : (rows.take (k + 1)).all rowOk = rowOk rows[k]:=by
     rw [List.take_succ_eq_append_getElem hlt,List.all_append,hall]
     simp
    have hno : rowOk rows[k] = false → rows.all rowOk = false:=by
     intro h
     rw [List.all_eq_false]
     exact ⟨rows[k],List.getElem_mem hlt,by simp [h]⟩
    have hrk : rowOk rows[k] = (decide (rows[k].2.1 ≤ rows[k].1) && decide (rows[k].1 ≤ rows[k].2.2)):=rfl
    rw [hrk] at hall' hno
    clear hrk
    have HA:=Lib.hid hall'
    have HN:=Lib.hid hno
    clear hall' hno hall
    obtain ⟨p0,p1,p2⟩:=HC.out k hlt
    have q0:=(hb.cell (p:=_) (block_lt_of_cell p0)).trans p0
    have q1:=(hb.cell (p:=_) (block_lt_of_cell p1)).trans p1
    have q2:=(hb.cell (p:=_) (block_lt_of_cell p2)).trans p2
    clear p0 p1 p2
    generalize rows[k].1 = a at q0 HA HN
    generalize rows[k].2.1 = lo at q1 HA HN
    generalize rows[k].2.2 = hi at q2 HA HN
    go_wp2
    · go_ret
      refine ⟨?_,Ext.alloc hb _⟩
      rw [HN.out (by simp;omega)]
      rfl
    · go_roundw
      case rel=>exact ⟨k + 1,by omega,by go_num,by rw [HA.out];simp;omega,Ext.alloc hb _⟩
      case measure=>simp [intOf];omega
    · go_ret
      refine ⟨?_,Ext.alloc hb _⟩
      rw [HN.out (by simp;omega)]
      rfl
  · have hk' : k = rows.length:=by omega
    have hfin : rows.all rowOk = true:=by rw [hk',List.take_length] at hall;exact hall
    have HF:=Lib.hid hfin
    clear hfin hall hk'
    go_wp2
    go_ret
    exact ⟨by rw [HF.out];rfl,hb⟩
theorem row1_new (w : World) (g : Nat) (hg : g = w.heap.size) (a lo hi : Int) (t : TypeId) : ∀ i (h : i < [(a,lo,hi)].length),(w.alloc (.cells #[.int .i64 a,.int .i64 lo,.int .i64 hi] t)).cell? ⟨g,i * 3,none⟩ = some (.int .i64 [(a,lo,hi)][i].1) ∧
 (w.alloc (.cells #[.int .i64 a,.int .i64 lo,.int .i64 hi] t)).cell? ⟨g,i * 3 + 1,none⟩ = some (.int .i64 [(a,lo,hi)][i].2.1) ∧
 (w.alloc (.cells #[.int .i64 a,.int .i64 lo,.int .i64 hi] t)).cell? ⟨g,i * 3 + 2,none⟩ = some (.int .i64 [(a,lo,hi)][i].2.2):=by
 intro i h
 subst hg
 have : i = 0:=by simpa using h
 subst this
 refine ⟨?_,?_,?_⟩ <;> rw [World.cell?_alloc_mark] <;> rfl
theorem row4_new (w : World) (g : Nat) (hg : g = w.heap.size) (a b c d : Int) (t : TypeId) : ∀ i (h : i < [(a,(3 : Int),(16 : Int)),(b,1,8),(c,1,8),(d,2,8)].length),
 (w.alloc (.cells #[.int .i64 a,.int .i64 3,.int .i64 16,.int .i64 b,.int .i64 1,.int .i64 8,.int .i64 c,.int .i64 1,.int .i64 8,.int .i64 d,.int .i64 2,.int .i64 8] t)).cell? ⟨g,i * 3,none⟩ = some (.int .i64 [(a,(3 : Int),(16 : Int)),(b,1,8),(c,1,8),(d,2,8)][i].1) ∧
 (w.alloc (.cells #[.int .i64 a,.int .i64 3,.int .i64 16,.int .i64 b,.int .i64 1,.int .i64 8,.int .i64 c,.int .i64 1,.int .i64 8,.int .i64 d,.int .i64 2,.int .i64 8] t)).cell? ⟨g,i * 3 + 1,none⟩ = some (.int .i64 [(a,(3 : Int),(16 : Int)),(b,1,8),(c,1,8),(d,2,8)][i].2.1) ∧
 (w.alloc (.cells #[.int .i64 a,.int .i64 3,.int .i64 16,.int .i64 b,.int .i64 1,.int .i64 8,.int .i64 c,.int .i64 1,.int .i64 8,.int .i64 d,.int .i64 2,.int .i64 8] t)).cell? ⟨g,i * 3 + 2,none⟩ = some (.int .i64 [(a,(3 : Int),(16 : Int)),(b,1,8),(c,1,8),(d,2,8)][i].2.2):=by
 intro i h
 subst hg
 have : i < 4:=by simpa using h
 rcases i with _ | _ | _ | _ | i
 · refine ⟨?_,?_,?_⟩ <;> rw [World.cell?_alloc_mark] <;> rfl
 · refine ⟨?_,?_,?_⟩ <;> rw [World.cell?_alloc_mark] <;> rfl
 · refine ⟨?_,?_,?_⟩ <;> rw [World.cell?_alloc_mark] <;> rfl
 · refine ⟨?_,?_,?_⟩ <;> rw [World.cell?_alloc_mark] <;> rfl
 · omega
theorem check_any (x : Cfg) (w : World) : Calls Try.prog 50 #[x.val] w fun e w'=>e = .returned (.int .i64 x.code) ∧ Below w.heap.size w w':=by
 have hall : [(x.m,(3 : Int),(16 : Int)),(x.c,1,8),(x.r,1,8),(x.h,2,8)].all rowOk = decide x.Plain:=by
  rw [Bool.eq_iff_iff]
  simp only [rowOk,List.all_cons,List.all_nil,Bool.and_true,Bool.and_eq_true,decide_eq_true_eq,and_assoc]
  exact Iff.rfl
 obtain ⟨id,m,c,r,l,h⟩:=x
 unfold Cfg.val
 dsimp only at hall ⊢
 by_cases hpl : Cfg.Plain ⟨id,m,c,r,l,h⟩
 · rw [decide_eq_true hpl] at hall
   have hB:=hpl
   unfold Cfg.Plain at hB
   dsimp only at hB
   obtain ⟨b1,b2,b3,b4,b5,b6,b7,b8⟩:=hB
   have hmul : (m + 1) * (h + 1) ≤ 153:=by
    have h1 : (m + 1) * (h + 1) ≤ 17 * (h + 1):=Int.mul_le_mul_of_nonneg_right (by omega) (by omega)
    omega
   have hmul0 : 0 ≤ (m + 1) * (h + 1):=Int.mul_nonneg (by omega) (by omega)
   have hone : [(l,(m + 1) * (h + 1),(255 : Int))].all rowOk = rowOk (l,(m + 1) * (h + 1),255):=by simp
   have hcode : Hid ((Cfg.mk id m c r l h).code = if rowOk (l,(m + 1) * (h + 1),255) then 0 else 8):=by
    show _ = _
    unfold Cfg.code Cfg.Ok
    simp only [hpl,true_and,rowOk,Bool.and_eq_true,decide_eq_true_eq]
   have HA:=Lib.hid hall
   clear hall hpl
   generalize hz : rowOk (l,(m + 1) * (h + 1),255) = z at hone hcode
   have H1:=Lib.hid hone
   clear hz hone
   go_enter Try.func50,Try.ntmps50
   go_wp2_with fail
   refine (bounds_any (w.heap.size + 1) 4 [(m,3,16),(c,1,8),(r,1,8),(h,2,8)] _ (by simp) (row4_new _ (w.heap.size + 1) (by simp) m c r h _)).mono ?_
   rw [HA.out]
   rintro e w1 ⟨rfl,k1⟩
   have s1:=k1.size
   simp at s1
   have k2 : Below w.heap.size w w1:=Ext.trans (Ext.alloc (Ext.alloc (Below.refl _ _) _) _) k1
   have c1 : w1.cell? ⟨w.heap.size,1,none⟩ = some (.int .i64 m):=(k1.cell (p:=⟨w.heap.size,1,none⟩) (by simp;omega)).trans (by simp)
   have c4 : w1.cell? ⟨w.heap.size,4,none⟩ = some (.int .i64 l):=(k1.cell (p:=⟨w.heap.size,4,none⟩) (by simp;omega)).trans (by simp)
   have c5 : w1.cell? ⟨w.heap.size,5,none⟩ = some (.int .i64 h):=(k1.cell (p:=⟨w.heap.size,5,none⟩) (by simp;omega)).trans (by simp)
   go_wp2_with fail
   refine (bounds_any w1.heap.size 1 [(l,(m + 1) * (h + 1),255)] _ (by simp) (row1_new _ w1.heap.size rfl l _ _ _)).mono ?_
   rw [H1.out]
   rintro e w2 ⟨rfl,k3⟩
   cases z
   · go_wp2
     go_ret
     exact ⟨by rw [hcode.out];rfl,Ext.trans (Ext.alloc k2 _) k3⟩
   · go_wp2
     go_ret
     exact ⟨by rw [hcode.out];rfl,Ext.trans (Ext.alloc k2 _) k3⟩
 · rw [decide_eq_false hpl] at hall
   have hcode : Hid ((Cfg.mk id m c r l h).code = 8):=Cfg.code_bad fun h=>hpl h.1
   have HA:=Lib.hid hall
   clear hall hpl
   go_enter Try.func50,Try.ntmps50
   go_wp2_with fail
   refine (bounds_any (w.heap.size + 1) 4 [(m,3,16),(c,1,8),(r,1,8),(h,2,8)] _ (by simp) (row4_new _ (w.heap.size + 1) (by simp) m c r h _)).mono ?_
   rw [HA.out]
   rintro e w1 ⟨rfl,k1⟩
   go_wp2
   go_ret
   exact ⟨by rw [hcode.out];rfl,Ext.trans (Ext.alloc (Ext.alloc (Below.refl _ _) _) _) k1⟩
theorem told_ok (x : Cfg) (hx : x.Ok) (n : Int) (w : World) : Calls Try.prog 97 #[x.val,.int .i64 n] w fun e w'=>e = .returned (.tuple #[.int .i64 n,.int .i64 0]) ∧ Below w.heap.size w w':=by
 have hck:=check_any x
 rw [Cfg.code_ok hx] at hck
 obtain ⟨id,m,c,r,l,h⟩:=x
 unfold Cfg.val at hck ⊢
 clear hx
 dsimp only at hck ⊢
 have HC:=Lib.hid hck
 clear hck
 go_enter Try.func97,Try.ntmps97
 go_wp2_with fail
 refine (HC.out _).mono ?_
 rintro e w1 ⟨rfl,k1⟩
 go_wp2
 go_ret2
 exact ⟨rfl,Ext.trans (Ext.alloc (Below.refl _ _) _) k1⟩
theorem told_bad (x : Cfg) (hx : ¬ x.Ok) (n : Int) (w : World) : Calls Try.prog 97 #[x.val,.int .i64 n] w fun e w'=>e = .returned (.tuple #[.int .i64 0,.int .i64 8]) ∧ Below w.heap.size w w':=by
 have hck:=check_any x
 rw [Cfg.code_bad hx] at hck
 obtain ⟨id,m,c,r,l,h⟩:=x
 unfold Cfg.val at hck ⊢
 clear hx
 dsimp only at hck ⊢
 have HC:=Lib.hid hck
 clear hck
 go_enter Try.func97,Try.ntmps97
 go_wp2_with fail
 refine (HC.out _).mono ?_
 rintro e w1 ⟨rfl,k1⟩
 go_wp2
 go_ret2
 exact ⟨rfl,Ext.trans (Ext.alloc (Below.refl _ _) _) k1⟩
theorem Cfg.bounds {x : Cfg} (h : x.Ok) : 3 ≤ x.m ∧ x.m ≤ 16 ∧ 1 ≤ x.c ∧ x.c ≤ 8 ∧ 1 ≤ x.r ∧ x.r ≤ 8 ∧ 2 ≤ x.h ∧ x.h ≤ 8 ∧ (x.m + 1) * (x.h + 1) ≤ x.l ∧ x.l ≤ 255:=by
 obtain ⟨⟨h1,h2,h3,h4,h5,h6,h7,h8⟩,h9,h10⟩:=h
 exact ⟨h1,h2,h3,h4,h5,h6,h7,h8,h9,h10⟩
theorem Cfg.cr {x : Cfg} (h : x.Ok) : 1 ≤ x.c * x.r ∧ x.c * x.r ≤ 64:=by
 obtain ⟨h1,h2,h3,h4,h5,h6,h7,h8,h9,h10⟩:=Cfg.bounds h
 constructor
 · have : 0 < x.c * x.r:=Int.mul_pos (by omega) (by omega)
   omega
 · have : x.c * x.r ≤ 8 * x.r:=Int.mul_le_mul_of_nonneg_right (by omega) (by omega)
   omega
theorem Cfg.crm {x : Cfg} (h : x.Ok) : 2 ≤ x.c * x.r * (x.m - 1) ∧ x.c * x.r * (x.m - 1) ≤ 960:=by
 obtain ⟨h1,h2,h3,h4,h5,h6,h7,h8,h9,h10⟩:=Cfg.bounds h
 obtain ⟨k1,k2⟩:=Cfg.cr h
 constructor
 · have : 1 * (x.m - 1) ≤ x.c * x.r * (x.m - 1):=Int.mul_le_mul_of_nonneg_right k1 (by omega)
   omega
 · have : x.c * x.r * (x.m - 1) ≤ 64 * (x.m - 1):=Int.mul_le_mul_of_nonneg_right k2 (by omega)
   omega
theorem blocks_ok (x : Cfg) (hx : x.Ok) (w : World) : Calls Try.prog 89 #[x.val] w fun e w'=>e = .returned (.tuple #[.int .i64 (x.c * x.r * (x.m - 1)),.int .i64 0]) ∧ Below w.heap.size w w':=by
 have HT:=Lib.hid (told_ok x hx)
 obtain ⟨b1,b2,b3,b4,b5,b6,b7,b8,_,b10⟩:=Cfg.bounds hx
 obtain ⟨k1,k2⟩:=Cfg.cr hx
 obtain ⟨k3,k4⟩:=Cfg.crm hx
 obtain ⟨id,m,c,r,l,h⟩:=x
 unfold Cfg.val at HT ⊢
 dsimp only at *
 clear hx
 go_enter Try.func89,Try.ntmps89
 go_wp2_with fail
 refine (HT.out _ _).mono ?_
 rintro e w1 ⟨rfl,k1⟩
 go_wp2
 go_ret2
 exact ⟨rfl,Ext.trans (Ext.alloc (Below.refl _ _) _) k1⟩
theorem blocks_bad (x : Cfg) (hx : ¬ x.Ok) (w : World) : Calls Try.prog 89 #[x.val] w fun e w'=>e = .returned (.tuple #[.int .i64 0,.int .i64 8]) ∧ Below w.heap.size w w':=by
 have HT:=Lib.hid (told_bad x hx)
 obtain ⟨id,m,c,r,l,h⟩:=x
 unfold Cfg.val at HT ⊢
 dsimp only at *
 clear hx
 go_enter Try.func89,Try.ntmps89
 go_wp2_with fail
 refine (HT.out _ _).mono ?_
 rintro e w1 ⟨rfl,k1⟩
 go_wp2
 go_ret2
 exact ⟨rfl,Ext.trans (Ext.alloc (Below.refl _ _) _) k1⟩
end Go.Proofs.Ythapabjlhooglaa
namespace Go.Proofs.Ythapabjlhooglaa
open Go.RowKit
def inB (lo n hi : Int) : Bool:=decide (lo ≤ n ∧ n ≤ hi)
theorem inB_yes {lo n hi : Int} (h : lo ≤ n ∧ n ≤ hi) : inB lo n hi = true:=decide_eq_true h
theorem inB_no {lo n hi : Int} (h : ¬ (lo ≤ n ∧ n ≤ hi)) : inB lo n hi = false:=decide_eq_false h
theorem in_any (n lo hi : Int) (w : World) : Calls Try.prog 90 #[.int .i64 n,.int .i64 lo,.int .i64 hi] w fun e w'=>e = .returned (.bool (inB lo n hi)) ∧ w = w':=by
 by_cases h1 : lo ≤ n
 · have H : Hid (inB lo n hi = decide (n ≤ hi)):=by show _ = _;simp [inB,h1]
   go_enter Try.func90,Try.ntmps90
   go_wp2
   go_ret
   exact ⟨by rw [H.out];rfl,rfl⟩
 · have H : Hid (inB lo n hi = false):=by show _ = _;simp [inB,h1]
   have h2 : n < lo:=by omega
   clear h1
   go_enter Try.func90,Try.ntmps90
   go_wp2
   go_ret
   exact ⟨by rw [H.out];rfl,rfl⟩
theorem in_yes (n lo hi : Int) (h : lo ≤ n ∧ n ≤ hi) (w : World) : Calls Try.prog 90 #[.int .i64 n,.int .i64 lo,.int .i64 hi] w fun e w'=>e = .returned (.bool true) ∧ w = w':=by
 have:=in_any n lo hi w
 rwa [inB_yes h] at this
theorem in_no (n lo hi : Int) (h : ¬ (lo ≤ n ∧ n ≤ hi)) (w : World) : Calls Try.prog 90 #[.int .i64 n,.int .i64 lo,.int .i64 hi] w fun e w'=>e = .returned (.bool false) ∧ w = w':=by
 have:=in_any n lo hi w
 rwa [inB_no h] at this
theorem rneed_any (x : Cfg) (hm : 3 ≤ x.m ∧ x.m ≤ 16) (w : World) : Calls Try.prog 91 #[x.val] w fun e w'=>e = .returned (.int .i64 (x.m + 1)) ∧ Below w.heap.size w w':=by
 obtain ⟨h1,h2⟩:=hm
 obtain ⟨id,m,c,r,l,h⟩:=x
 unfold Cfg.val
 dsimp only at *
 go_enter Try.func91,Try.ntmps91
 go_wp2
 go_ret
 exact ⟨rfl,Ext.alloc (Below.refl _ _) _⟩
theorem may_plain (id : Nat) (m c r l h : Int) (hpl : Cfg.Plain ⟨id,m,c,r,l,h⟩) (w : World) : Calls Try.prog 67 #[(Cfg.mk id m c r l h).val] w fun e w'=>e = .returned (.bool (inB ((m + 1) * (h + 1)) l 255)) ∧ Below w.heap.size w w':=by
 have hB:=hpl
 unfold Cfg.Plain at hB
 dsimp only at hB
 obtain ⟨b1,b2,b3,b4,b5,b6,b7,b8⟩:=hB
 have hmul : (m + 1) * (h + 1) ≤ 153:=by
  have h1 : (m + 1) * (h + 1) ≤ 17 * (h + 1):=Int.mul_le_mul_of_nonneg_right (by omega) (by omega)
  omega
 have hmul0 : 0 ≤ (m + 1) * (h + 1):=Int.mul_nonneg (by omega) (by omega)
 have HN:=Lib.hid (rneed_any ⟨id,m,c,r,l,h⟩ ⟨b1,b2⟩)
 unfold Cfg.val at HN ⊢
 dsimp only at HN ⊢
 clear hpl
 go_enter Try.func67,Try.ntmps67
 go_wp2_with fail
 refine (in_yes m 3 16 ⟨b1,b2⟩ _).mono ?_
 rintro e _ ⟨rfl,rfl⟩
 go_wp2_with fail
 refine (in_yes c 1 8 ⟨b3,b4⟩ _).mono ?_
 rintro e _ ⟨rfl,rfl⟩
 go_wp2_with fail
 refine (in_yes r 1 8 ⟨b5,b6⟩ _).mono ?_
 rintro e _ ⟨rfl,rfl⟩
 go_wp2_with fail
 refine (in_yes h 2 8 ⟨b7,b8⟩ _).mono ?_
 rintro e _ ⟨rfl,rfl⟩
 have hw1 : IntKind.i64.wrap (h + 1) = h + 1:=IntWalk.i64_in _ (by omega)
 have hw2 : IntKind.i64.wrap ((m + 1) * (h + 1)) = (m + 1) * (h + 1):=IntWalk.i64_in _ (by omega)
 go_wp2_with fail
 go_region_held3 (fun w'=>Below w.heap.size w w' ∧ w.heap.size < w'.heap.size ∧ w'.cell? ⟨w.heap.size,0,none⟩ = some (.int .u32 (id : Int)) ∧ w'.cell? ⟨w.heap.size,1,none⟩ = some (.int .i64 m) ∧ w'.cell? ⟨w.heap.size,2,none⟩ = some (.int .i64 c) ∧ w'.cell? ⟨w.heap.size,3,none⟩ = some (.int .i64 r) ∧ w'.cell? ⟨w.heap.size,4,none⟩ = some (.int .i64 l) ∧ w'.cell? ⟨w.heap.size,5,none⟩ = some (.int .i64 h))
  (first | (exact ⟨((Below.refl _ _).alloc (Nat.le_refl _) _).drew,by simp,by simp,by simp,by simp,by simp,by simp,by simp⟩) | (exact ⟨Ext.trans (And.left (by assumption)) k3,Nat.lt_of_lt_of_le (And.left (And.right (by assumption))) k3.size,by simp [*],by simp [*],by simp [*],by simp [*],by simp [*],by simp [*]⟩) | assumption)
  (first | (go_at_call 91;refine (HN.out _).mono ?_;rintro e w3 ⟨rfl,k3⟩;have hcl:=fun o=>k3.cell (p:=⟨w.heap.size,o,none⟩) (And.left (And.right (by assumption)))) | (go_at_call 90;refine (in_any _ _ _ _).mono ?_;rintro e w3 ⟨rfl,rfl⟩))
 go_wp2
 go_ret
 exact ⟨rfl,And.left (by assumption)⟩
def Cfg.okB (x : Cfg) : Bool:=decide x.Ok
theorem Cfg.okB_ok {x : Cfg} (h : x.Ok) : x.okB = true:=decide_eq_true h
theorem Cfg.okB_bad {x : Cfg} (h : ¬ x.Ok) : x.okB = false:=decide_eq_false h
theorem may_unplain (id : Nat) (m c r l h : Int) (hpl : ¬ Cfg.Plain ⟨id,m,c,r,l,h⟩) (w : World) : Calls Try.prog 67 #[(Cfg.mk id m c r l h).val] w fun e w'=>e = .returned (.bool false) ∧ Below w.heap.size w w':=by
 unfold Cfg.Plain at hpl
 unfold Cfg.val
 dsimp only at hpl ⊢
 by_cases g1 : 3 ≤ m ∧ m ≤ 16
 · by_cases g2 : 1 ≤ c ∧ c ≤ 8
   · by_cases g3 : 1 ≤ r ∧ r ≤ 8
     · have g4 : ¬ (2 ≤ h ∧ h ≤ 8):=fun g4=>hpl ⟨g1.1,g1.2,g2.1,g2.2,g3.1,g3.2,g4.1,g4.2⟩
       clear hpl
       have G1:=Lib.hid g1
       have G2:=Lib.hid g2
       have G3:=Lib.hid g3
       have G4:=Lib.hid g4
       clear g1 g2 g3 g4
       go_enter Try.func67,Try.ntmps67
       go_wp2_with fail
       refine (in_yes m 3 16 G1.out _).mono ?_
       rintro e _ ⟨rfl,rfl⟩
       go_wp2_with fail
       refine (in_yes c 1 8 G2.out _).mono ?_
       rintro e _ ⟨rfl,rfl⟩
       go_wp2_with fail
       refine (in_yes r 1 8 G3.out _).mono ?_
       rintro e _ ⟨rfl,rfl⟩
       go_wp2_with fail
       refine (in_no h 2 8 G4.out _).mono ?_
       rintro e _ ⟨rfl,rfl⟩
       go_wp2
       go_ret
       exact ⟨rfl,Ext.alloc (Below.refl _ _) _⟩
     · clear hpl
       have G1:=Lib.hid g1
       have G2:=Lib.hid g2
       have G3:=Lib.hid g3
       clear g1 g2 g3
       go_enter Try.func67,Try.ntmps67
       go_wp2_with fail
       refine (in_yes m 3 16 G1.out _).mono ?_
       rintro e _ ⟨rfl,rfl⟩
       go_wp2_with fail
       refine (in_yes c 1 8 G2.out _).mono ?_
       rintro e _ ⟨rfl,rfl⟩
       go_wp2_with fail
       refine (in_no r 1 8 G3.out _).mono ?_
       rintro e _ ⟨rfl,rfl⟩
       go_wp2
       go_ret
       exact ⟨rfl,Ext.alloc (Below.refl _ _) _⟩
   · clear hpl
     have G1:=Lib.hid g1
     have G2:=Lib.hid g2
     clear g1 g2
     go_enter Try.func67,Try.ntmps67
     go_wp2_with fail
     refine (in_yes m 3 16 G1.out _).mono ?_
     rintro e _ ⟨rfl,rfl⟩
     go_wp2_with fail
     refine (in_no c 1 8 G2.out _).mono ?_
     rintro e _ ⟨rfl,rfl⟩
     go_wp2
     go_ret
     exact ⟨rfl,Ext.alloc (Below.refl _ _) _⟩
 · clear hpl
   have G1:=Lib.hid g1
   clear g1
   go_enter Try.func67,Try.ntmps67
   go_wp2_with fail
   refine (in_no m 3 16 G1.out _).mono ?_
   rintro e _ ⟨rfl,rfl⟩
   go_wp2
   go_ret
   exact ⟨rfl,Ext.alloc (Below.refl _ _) _⟩
theorem may_any (x : Cfg) (w : World) : Calls Try.prog 67 #[x.val] w fun e w'=>e = .returned (.bool x.okB) ∧ Below w.heap.size w w':=by
 by_cases hpl : x.Plain
 · refine (may_plain x.id x.m x.c x.r x.l x.h hpl w).mono ?_
   rintro e w' ⟨rfl,hb⟩
   refine ⟨?_,hb⟩
   have : inB ((x.m + 1) * (x.h + 1)) x.l 255 = x.okB:=by
    unfold inB Cfg.okB
    rw [decide_eq_decide]
    exact ⟨fun h=>⟨hpl,h⟩,fun h=>h.2⟩
   rw [this]
 · refine (may_unplain x.id x.m x.c x.r x.l x.h hpl w).mono ?_
   rintro e w' ⟨rfl,hb⟩
   rw [Cfg.okB_bad (fun h=>hpl h.1)]
   exact ⟨rfl,hb⟩
theorem may_yes (x : Cfg) (hx : x.Ok) (w : World) : Calls Try.prog 67 #[x.val] w fun e w'=>e = .returned (.bool true) ∧ Below w.heap.size w w':=by
 have:=may_any x w
 rwa [Cfg.okB_ok hx] at this
theorem may_no (x : Cfg) (hx : ¬ x.Ok) (w : World) : Calls Try.prog 67 #[x.val] w fun e w'=>e = .returned (.bool false) ∧ Below w.heap.size w w':=by
 have:=may_any x w
 rwa [Cfg.okB_bad hx] at this
theorem rstripes_ok (x : Cfg) (hx : x.Ok) (w : World) : Calls Try.prog 100 #[x.val] w fun e w'=>e = .returned (.int .i64 (x.c * x.r)) ∧ Below w.heap.size w w':=by
 obtain ⟨k1,k2⟩:=Cfg.cr hx
 obtain ⟨id,m,c,r,l,h⟩:=x
 unfold Cfg.val
 dsimp only at *
 clear hx
 go_enter Try.func100,Try.ntmps100
 go_wp2
 go_ret
 exact ⟨rfl,Ext.alloc (Below.refl _ _) _⟩
theorem rblocks_ok (x : Cfg) (hx : x.Ok) (w : World) : Calls Try.prog 93 #[x.val] w fun e w'=>e = .returned (.int .i64 (x.c * x.r * (x.m - 1))) ∧ Below w.heap.size w w':=by
 have HS:=Lib.hid (rstripes_ok x hx)
 obtain ⟨k1,k2⟩:=Cfg.cr hx
 obtain ⟨k3,k4⟩:=Cfg.crm hx
 obtain ⟨b1,b2,b3,b4,b5,b6,b7,b8,b9,b10⟩:=Cfg.bounds hx
 clear b9
 obtain ⟨id,m,c,r,l,h⟩:=x
 unfold Cfg.val at HS ⊢
 dsimp only at *
 clear hx
 go_enter Try.func93,Try.ntmps93
 have hw1 : IntKind.i64.wrap (m - 1) = m - 1:=IntWalk.i64_in _ (by omega)
 have hw2 : IntKind.i64.wrap (c * r * (m - 1)) = c * r * (m - 1):=IntWalk.i64_in _ (by omega)
 go_wp2_with fail
 go_region_held3 (fun w'=>Below w.heap.size w w' ∧ w.heap.size < w'.heap.size ∧ w'.cell? ⟨w.heap.size,0,none⟩ = some (.int .u32 (id : Int)) ∧ w'.cell? ⟨w.heap.size,1,none⟩ = some (.int .i64 m) ∧ w'.cell? ⟨w.heap.size,2,none⟩ = some (.int .i64 c) ∧ w'.cell? ⟨w.heap.size,3,none⟩ = some (.int .i64 r) ∧ w'.cell? ⟨w.heap.size,4,none⟩ = some (.int .i64 l) ∧ w'.cell? ⟨w.heap.size,5,none⟩ = some (.int .i64 h))
  (first | (exact ⟨((Below.refl _ _).alloc (Nat.le_refl _) _).drew,by simp,by simp,by simp,by simp,by simp,by simp,by simp⟩) | (exact ⟨Ext.trans (And.left (by assumption)) k3,Nat.lt_of_lt_of_le (And.left (And.right (by assumption))) k3.size,by simp [*],by simp [*],by simp [*],by simp [*],by simp [*],by simp [*]⟩) | assumption)
  (first | (go_at_call 100;refine (HS.out _).mono ?_;rintro e w3 ⟨rfl,k3⟩;have hcl:=fun o=>k3.cell (p:=⟨w.heap.size,o,none⟩) (And.left (And.right (by assumption)))))
 go_wp2
 go_ret
 exact ⟨rfl,And.left (by assumption)⟩
end Go.Proofs.Ythapabjlhooglaa
namespace Go.Proofs.Ythapabjlhooglaa
open Go.RowKit
set_option linter.unusedSimpArgs false
set_option linter.unusedVariables false
def kMost (k : Int) : Int:=if k = 1 ∨ k = 2 ∨ k = 3 ∨ k = 5 then 8 else 0
def kBytes (k : Int) : Bool:=decide (k = 2 ∨ k = 3)
def kWrites (k : Int) : Bool:=decide (k = 2 ∨ k = 3 ∨ k = 5)
def kIs (k : Int) : Bool:=decide (1 ≤ k ∧ k ≤ 6)
theorem of_1 (w : World) : Calls Try.prog 63 #[.int .u8 1] w fun e w'=>e = .returned (.tuple #[.agg #[.int .i64 8,.bool false,.bool false],.bool true]) ∧ Below w.heap.size w w':=by
 go_enter Try.func63,Try.ntmps63
 go_wp2
 exact bodyPost_ret (v:=.tuple #[.agg #[.int .i64 8,.bool false,.bool false],.bool true]) (Eq.trans (results_row2 (P:=Try.prog) (fn:=Try.f63) (p:=2) (u:=3) (ty:=114) rfl _ _ w.heap.size 114 #[.int .i64 8,.bool false,.bool false] (0,0) _ rfl (heap_alloc_new _ _) Try.underlying114 rfl (by kernel_rfl)) rfl) rfl ⟨rfl,Ext.alloc (Below.refl _ _) _⟩
theorem of_2 (w : World) : Calls Try.prog 63 #[.int .u8 2] w fun e w'=>e = .returned (.tuple #[.agg #[.int .i64 8,.bool true,.bool true],.bool true]) ∧ Below w.heap.size w w':=by
 go_enter Try.func63,Try.ntmps63
 go_wp2
 exact bodyPost_ret (v:=.tuple #[.agg #[.int .i64 8,.bool true,.bool true],.bool true]) (Eq.trans (results_row2 (P:=Try.prog) (fn:=Try.f63) (p:=2) (u:=3) (ty:=114) rfl _ _ w.heap.size 114 #[.int .i64 8,.bool true,.bool true] (0,0) _ rfl (heap_alloc_new _ _) Try.underlying114 rfl (by kernel_rfl)) rfl) rfl ⟨rfl,Ext.alloc (Below.refl _ _) _⟩
theorem of_3 (w : World) : Calls Try.prog 63 #[.int .u8 3] w fun e w'=>e = .returned (.tuple #[.agg #[.int .i64 8,.bool true,.bool true],.bool true]) ∧ Below w.heap.size w w':=by
 go_enter Try.func63,Try.ntmps63
 go_wp2
 exact bodyPost_ret (v:=.tuple #[.agg #[.int .i64 8,.bool true,.bool true],.bool true]) (Eq.trans (results_row2 (P:=Try.prog) (fn:=Try.f63) (p:=2) (u:=3) (ty:=114) rfl _ _ w.heap.size 114 #[.int .i64 8,.bool true,.bool true] (0,0) _ rfl (heap_alloc_new _ _) Try.underlying114 rfl (by kernel_rfl)) rfl) rfl ⟨rfl,Ext.alloc (Below.refl _ _) _⟩
theorem of_4 (w : World) : Calls Try.prog 63 #[.int .u8 4] w fun e w'=>e = .returned (.tuple #[.agg #[.int .i64 0,.bool false,.bool false],.bool true]) ∧ Below w.heap.size w w':=by
 go_enter Try.func63,Try.ntmps63
 go_wp2
 exact bodyPost_ret (v:=.tuple #[.agg #[.int .i64 0,.bool false,.bool false],.bool true]) (Eq.trans (results_row2 (P:=Try.prog) (fn:=Try.f63) (p:=2) (u:=3) (ty:=114) rfl _ _ w.heap.size 114 #[.int .i64 0,.bool false,.bool false] (0,0) _ rfl (heap_alloc_new _ _) Try.underlying114 rfl (by kernel_rfl)) rfl) rfl ⟨rfl,Ext.alloc (Below.refl _ _) _⟩
theorem of_5 (w : World) : Calls Try.prog 63 #[.int .u8 5] w fun e w'=>e = .returned (.tuple #[.agg #[.int .i64 8,.bool false,.bool true],.bool true]) ∧ Below w.heap.size w w':=by
 go_enter Try.func63,Try.ntmps63
 go_wp2
 exact bodyPost_ret (v:=.tuple #[.agg #[.int .i64 8,.bool false,.bool true],.bool true]) (Eq.trans (results_row2 (P:=Try.prog) (fn:=Try.f63) (p:=2) (u:=3) (ty:=114) rfl _ _ w.heap.size 114 #[.int .i64 8,.bool false,.bool true] (0,0) _ rfl (heap_alloc_new _ _) Try.underlying114 rfl (by kernel_rfl)) rfl) rfl ⟨rfl,Ext.alloc (Below.refl _ _) _⟩
theorem of_6 (w : World) : Calls Try.prog 63 #[.int .u8 6] w fun e w'=>e = .returned (.tuple #[.agg #[.int .i64 0,.bool false,.bool false],.bool true]) ∧ Below w.heap.size w w':=by
 go_enter Try.func63,Try.ntmps63
 go_wp2
 exact bodyPost_ret (v:=.tuple #[.agg #[.int .i64 0,.bool false,.bool false],.bool true]) (Eq.trans (results_row2 (P:=Try.prog) (fn:=Try.f63) (p:=2) (u:=3) (ty:=114) rfl _ _ w.heap.size 114 #[.int .i64 0,.bool false,.bool false] (0,0) _ rfl (heap_alloc_new _ _) Try.underlying114 rfl (by kernel_rfl)) rfl) rfl ⟨rfl,Ext.alloc (Below.refl _ _) _⟩
theorem of_no (k : Int) (hk : ¬ (1 ≤ k ∧ k ≤ 6)) (w : World) : Calls Try.prog 63 #[.int .u8 k] w fun e w'=>e = .returned (.tuple #[.agg #[.int .i64 0,.bool false,.bool false],.bool false]) ∧ Below w.heap.size w w':=by
 have h1 : (k == 1) = false:=by simp;omega
 have h2 : (k == 2) = false:=by simp;omega
 have h3 : (k == 3) = false:=by simp;omega
 have h4 : (k == 4) = false:=by simp;omega
 have h5 : (k == 5) = false:=by simp;omega
 have h6 : (k == 6) = false:=by simp;omega
 clear hk
 go_enter Try.func63,Try.ntmps63
 go_wp2
 exact bodyPost_ret (v:=.tuple #[.agg #[.int .i64 0,.bool false,.bool false],.bool false]) (Eq.trans (results_row2 (P:=Try.prog) (fn:=Try.f63) (p:=2) (u:=3) (ty:=114) rfl _ _ w.heap.size 114 #[.int .i64 0,.bool false,.bool false] (0,0) _ rfl (heap_alloc_new _ _) Try.underlying114 rfl (by kernel_rfl)) rfl) rfl ⟨rfl,Ext.alloc (Below.refl _ _) _⟩
theorem of_any (k : Int) (w : World) : Calls Try.prog 63 #[.int .u8 k] w fun e w'=>e = .returned (.tuple #[.agg #[.int .i64 (kMost k),.bool (kBytes k),.bool (kWrites k)],.bool (kIs k)]) ∧ Below w.heap.size w w':=by
 by_cases hk : 1 ≤ k ∧ k ≤ 6
 · rcases (show k = 1 ∨ k = 2 ∨ k = 3 ∨ k = 4 ∨ k = 5 ∨ k = 6 by omega) with rfl | rfl | rfl | rfl | rfl | rfl
   · exact of_1 w
   · exact of_2 w
   · exact of_3 w
   · exact of_4 w
   · exact of_5 w
   · exact of_6 w
 · have h:=of_no k hk w
   have e1 : kMost k = 0:=if_neg (by omega)
   have e2 : kBytes k = false:=decide_eq_false (by omega)
   have e3 : kWrites k = false:=decide_eq_false (by omega)
   have e4 : kIs k = false:=decide_eq_false hk
   rw [e1,e2,e3,e4]
   exact h
end Go.Proofs.Ythapabjlhooglaa
namespace Go.Proofs.Ythapabjlhooglaa
open Go.RowKit
set_option linter.unusedSimpArgs false
set_option linter.unusedVariables false
def Placed (nb k a y : Int) : Prop:=(kMost k = 8 ∧ 1 ≤ y ∧ y ≤ 8 ∧ 0 ≤ a ∧ a ≤ nb - y) ∨ (kIs k = true ∧ kMost k = 0 ∧ a = 0 ∧ y = 0)
theorem kMost_is {k : Int} (h : kMost k = 8) : kIs k = true:=by
 unfold kMost at h
 split at h
 · exact decide_eq_true (by omega)
 · cases h
theorem kMost_or (k : Int) : kMost k = 8 ∨ (kMost k = 0 ∧ kBytes k = false ∧ kWrites k = false):=by
 unfold kMost
 split
 · exact .inl rfl
 · exact .inr ⟨rfl,decide_eq_false (by omega),decide_eq_false (by omega)⟩
def kWant (k y : Int) : Int:=if kBytes k then y * 128 else 0
set_option maxRecDepth 100000 in
theorem scheck_bad (x : Cfg) (hx : ¬ x.Ok) (k a y : Int) (A : Option Addr) (n q : Nat) (w : World) :
 Calls Try.prog 66 #[x.val,.agg #[.int .u8 k,.int .i64 a,.int .i64 y,.slice A n q]] w fun e w'=>e = .returned (.int .i64 8) ∧ Below w.heap.size w w':=by
 have HB:=Lib.hid (blocks_bad x hx)
 obtain ⟨id,m,c,r,l,h⟩:=x
 unfold Cfg.val at *
 dsimp only at *
 all_goals
  go_enter Try.func66,Try.ntmps66
  go_wp2_with fail
  have A0:=BoxOf.new' (w.alloc (.cells #[.int .u32 (id : Int),.int .i64 m,.int .i64 c,.int .i64 r,.int .i64 l,.int .i64 h] 24)) (w.heap.size + 1) #[.int .u8 k,.int .i64 a,.int .i64 y,.slice A n q] 28 (by simp)
  have t0:=Ext.alloc (Ext.alloc (Below.refl w.heap.size w) (.cells #[.int .u32 (id : Int),.int .i64 m,.int .i64 c,.int .i64 r,.int .i64 l,.int .i64 h] 24)) (.cells #[.int .u8 k,.int .i64 a,.int .i64 y,.slice A n q] 28)
  refine (HB.out _).mono ?_
  rintro e w1 ⟨rfl,b1⟩
  have A1:=A0.next b1
  have t1:=Ext.trans t0 b1
  have x1:=A1.cell
  clear A0 t0 b1
  go_wp2
  go_ret
  exact ⟨rfl,t1⟩
set_option maxRecDepth 100000 in
set_option maxHeartbeats 1000000 in
theorem scheck_arg (x : Cfg) (hx : x.Ok) (k a y : Int) (A : Option Addr) (n q : Nat) (hp : ¬ Placed (x.c * x.r * (x.m - 1)) k a y) (w : World) :
 Calls Try.prog 66 #[x.val,.agg #[.int .u8 k,.int .i64 a,.int .i64 y,.slice A n q]] w fun e w'=>e = .returned (.int .i64 2) ∧ Below w.heap.size w w':=by
 have HB:=Lib.hid (blocks_ok x hx)
 have HO:=Lib.hid (of_any k)
 have hcr:=Cfg.crm hx
 have hor:=kMost_or k
 have his:=@kMost_is k
 unfold Placed at hp
 obtain ⟨id,m,c,r,l,h⟩:=x
 unfold Cfg.val at *
 dsimp only at *
 clear hx
 generalize c * r * (m - 1) = nb at *
 obtain ⟨hn1,hn2⟩:=hcr
 generalize kMost k = mo at *
 generalize kBytes k = by' at *
 generalize kWrites k = wr at *
 generalize kIs k = is at *
 rcases hor with rfl | ⟨rfl,rfl,rfl⟩
 · obtain rfl:=his rfl
   rcases (show a < 0 ∨ (0 ≤ a ∧ y < 1) ∨ (0 ≤ a ∧ 8 < y) ∨ ((0 ≤ a ∧ 1 ≤ y ∧ y ≤ 8) ∧ nb - y < a) by omega) with h1 | ⟨h1,h2⟩ | ⟨h1,h2⟩ | ⟨⟨h1,h2,h3⟩,h4⟩
   all_goals
    clear his hp
    go_enter Try.func66,Try.ntmps66
    go_wp2_with fail
    have A0:=BoxOf.new' (w.alloc (.cells #[.int .u32 (id : Int),.int .i64 m,.int .i64 c,.int .i64 r,.int .i64 l,.int .i64 h] 24)) (w.heap.size + 1) #[.int .u8 k,.int .i64 a,.int .i64 y,.slice A n q] 28 (by simp)
    have t0:=Ext.alloc (Ext.alloc (Below.refl w.heap.size w) (.cells #[.int .u32 (id : Int),.int .i64 m,.int .i64 c,.int .i64 r,.int .i64 l,.int .i64 h] 24)) (.cells #[.int .u8 k,.int .i64 a,.int .i64 y,.slice A n q] 28)
    refine (HB.out _).mono ?_
    rintro e w1 ⟨rfl,b1⟩
    have A1:=A0.next b1
    have t1:=Ext.trans t0 b1
    have x1:=A1.cell
    clear A0 t0 b1
    go_wp2_with fail
    refine (HO.out _).mono ?_
    rintro e w2 ⟨rfl,b2⟩
    have A2:=A1.next b2
    have t2:=Ext.alloc (Ext.trans t1 b2) (.cells #[.int .i64 8,.bool by',.bool wr] 114)
    have x2:=A2.cell
    have l2:=A2.lt
    clear x1 A1 t1 b2 A2
    go_wp2
    go_ret
    exact ⟨rfl,t2⟩
 · cases is with
   | false=>
     clear his hp
     go_enter Try.func66,Try.ntmps66
     go_wp2_with fail
     have A0:=BoxOf.new' (w.alloc (.cells #[.int .u32 (id : Int),.int .i64 m,.int .i64 c,.int .i64 r,.int .i64 l,.int .i64 h] 24)) (w.heap.size + 1) #[.int .u8 k,.int .i64 a,.int .i64 y,.slice A n q] 28 (by simp)
     have t0:=Ext.alloc (Ext.alloc (Below.refl w.heap.size w) (.cells #[.int .u32 (id : Int),.int .i64 m,.int .i64 c,.int .i64 r,.int .i64 l,.int .i64 h] 24)) (.cells #[.int .u8 k,.int .i64 a,.int .i64 y,.slice A n q] 28)
     refine (HB.out _).mono ?_
     rintro e w1 ⟨rfl,b1⟩
     have A1:=A0.next b1
     have t1:=Ext.trans t0 b1
     have x1:=A1.cell
     clear A0 t0 b1
     go_wp2_with fail
     refine (HO.out _).mono ?_
     rintro e w2 ⟨rfl,b2⟩
     have A2:=A1.next b2
     have t2:=Ext.alloc (Ext.trans t1 b2) (.cells #[.int .i64 0,.bool false,.bool false] 114)
     have x2:=A2.cell
     have l2:=A2.lt
     clear x1 A1 t1 b2 A2
     go_wp2
     go_ret
     exact ⟨rfl,t2⟩
   | true=>
     have hp' : ¬ (a = 0 ∧ y = 0):=fun h=>hp (.inr ⟨rfl,rfl,h⟩)
     rcases (show a < 0 ∨ (0 ≤ a ∧ y < 0) ∨ (0 ≤ a ∧ 0 < y) ∨ ((0 ≤ a ∧ 0 ≤ y ∧ y ≤ 0) ∧ nb < a) ∨ ((0 ≤ a ∧ 0 ≤ y ∧ y ≤ 0) ∧ a ≤ nb ∧ 0 < a) by omega) with h1 | ⟨h1,h2⟩ | ⟨h1,h2⟩ | ⟨⟨h1,h2,h3⟩,h4⟩ | ⟨⟨h1,h2,h3⟩,h4,h5⟩
     all_goals
      clear his hp hp'
      go_enter Try.func66,Try.ntmps66
      go_wp2_with fail
      have A0:=BoxOf.new' (w.alloc (.cells #[.int .u32 (id : Int),.int .i64 m,.int .i64 c,.int .i64 r,.int .i64 l,.int .i64 h] 24)) (w.heap.size + 1) #[.int .u8 k,.int .i64 a,.int .i64 y,.slice A n q] 28 (by simp)
      have t0:=Ext.alloc (Ext.alloc (Below.refl w.heap.size w) (.cells #[.int .u32 (id : Int),.int .i64 m,.int .i64 c,.int .i64 r,.int .i64 l,.int .i64 h] 24)) (.cells #[.int .u8 k,.int .i64 a,.int .i64 y,.slice A n q] 28)
      refine (HB.out _).mono ?_
      rintro e w1 ⟨rfl,b1⟩
      have A1:=A0.next b1
      have t1:=Ext.trans t0 b1
      have x1:=A1.cell
      clear A0 t0 b1
      go_wp2_with fail
      refine (HO.out _).mono ?_
      rintro e w2 ⟨rfl,b2⟩
      have A2:=A1.next b2
      have t2:=Ext.alloc (Ext.trans t1 b2) (.cells #[.int .i64 0,.bool false,.bool false] 114)
      have x2:=A2.cell
      have l2:=A2.lt
      clear x1 A1 t1 b2 A2
      go_wp2
      go_ret
      exact ⟨rfl,t2⟩
set_option maxRecDepth 100000 in
set_option maxHeartbeats 1000000 in
theorem scheck_text (x : Cfg) (hx : x.Ok) (k a y : Int) (A : Option Addr) (n q : Nat) (hp : Placed (x.c * x.r * (x.m - 1)) k a y) (hn : (n : Int) ≠ kWant k y) (w : World) :
 Calls Try.prog 66 #[x.val,.agg #[.int .u8 k,.int .i64 a,.int .i64 y,.slice A n q]] w fun e w'=>e = .returned (.int .i64 3) ∧ Below w.heap.size w w':=by
 have HB:=Lib.hid (blocks_ok x hx)
 have HO:=Lib.hid (of_any k)
 have hcr:=Cfg.crm hx
 have hor:=kMost_or k
 have his:=@kMost_is k
 unfold Placed at hp
 unfold kWant at hn
 obtain ⟨id,m,c,r,l,h⟩:=x
 unfold Cfg.val at *
 dsimp only at *
 clear hx
 generalize c * r * (m - 1) = nb at *
 obtain ⟨hn1,hn2⟩:=hcr
 generalize kMost k = mo at *
 generalize kBytes k = by' at *
 generalize kWrites k = wr at *
 generalize kIs k = is at *
 rcases hor with rfl | ⟨rfl,rfl,rfl⟩
 · obtain rfl:=his rfl
   obtain ⟨h1,h2,h3,h4⟩ : 1 ≤ y ∧ y ≤ 8 ∧ 0 ≤ a ∧ a ≤ nb - y:=by omega
   cases by' with
   | true=>
     have hne : ((n : Int) != y * 128) = true:=by simp at hn ⊢;exact hn
     clear his hp hn
     go_enter Try.func66,Try.ntmps66
     go_wp2_with fail
     have A0:=BoxOf.new' (w.alloc (.cells #[.int .u32 (id : Int),.int .i64 m,.int .i64 c,.int .i64 r,.int .i64 l,.int .i64 h] 24)) (w.heap.size + 1) #[.int .u8 k,.int .i64 a,.int .i64 y,.slice A n q] 28 (by simp)
     have t0:=Ext.alloc (Ext.alloc (Below.refl w.heap.size w) (.cells #[.int .u32 (id : Int),.int .i64 m,.int .i64 c,.int .i64 r,.int .i64 l,.int .i64 h] 24)) (.cells #[.int .u8 k,.int .i64 a,.int .i64 y,.slice A n q] 28)
     refine (HB.out _).mono ?_
     rintro e w1 ⟨rfl,b1⟩
     have A1:=A0.next b1
     have t1:=Ext.trans t0 b1
     have x1:=A1.cell
     clear A0 t0 b1
     go_wp2_with fail
     refine (HO.out _).mono ?_
     rintro e w2 ⟨rfl,b2⟩
     have A2:=A1.next b2
     have t2:=Ext.alloc (Ext.trans t1 b2) (.cells #[.int .i64 8,.bool true,.bool wr] 114)
     have x2:=A2.cell
     have l2:=A2.lt
     clear x1 A1 t1 b2 A2
     go_wp2
     go_ret
     exact ⟨rfl,t2⟩
   | false=>
     have hne : ((n : Int) != 0) = true:=by simp at hn ⊢;exact hn
     clear his hp hn
     go_enter Try.func66,Try.ntmps66
     go_wp2_with fail
     have A0:=BoxOf.new' (w.alloc (.cells #[.int .u32 (id : Int),.int .i64 m,.int .i64 c,.int .i64 r,.int .i64 l,.int .i64 h] 24)) (w.heap.size + 1) #[.int .u8 k,.int .i64 a,.int .i64 y,.slice A n q] 28 (by simp)
     have t0:=Ext.alloc (Ext.alloc (Below.refl w.heap.size w) (.cells #[.int .u32 (id : Int),.int .i64 m,.int .i64 c,.int .i64 r,.int .i64 l,.int .i64 h] 24)) (.cells #[.int .u8 k,.int .i64 a,.int .i64 y,.slice A n q] 28)
     refine (HB.out _).mono ?_
     rintro e w1 ⟨rfl,b1⟩
     have A1:=A0.next b1
     have t1:=Ext.trans t0 b1
     have x1:=A1.cell
     clear A0 t0 b1
     go_wp2_with fail
     refine (HO.out _).mono ?_
     rintro e w2 ⟨rfl,b2⟩
     have A2:=A1.next b2
     have t2:=Ext.alloc (Ext.trans t1 b2) (.cells #[.int .i64 8,.bool false,.bool wr] 114)
     have x2:=A2.cell
     have l2:=A2.lt
     clear x1 A1 t1 b2 A2
     go_wp2
     go_ret
     exact ⟨rfl,t2⟩
 · obtain ⟨rfl,ha,hy⟩ : is = true ∧ a = 0 ∧ y = 0:=hp.elim (fun h=>absurd h.1 (by decide)) (fun h=>⟨h.1,h.2.2⟩)
   obtain ⟨ha1,ha2,hy1,hy2⟩ : 0 ≤ a ∧ a ≤ 0 ∧ 0 ≤ y ∧ y ≤ 0:=by omega
   clear ha hy
   have hne : ((n : Int) != 0) = true:=by simp at hn ⊢;exact hn
   clear his hp hn
   go_enter Try.func66,Try.ntmps66
   go_wp2_with fail
   have A0:=BoxOf.new' (w.alloc (.cells #[.int .u32 (id : Int),.int .i64 m,.int .i64 c,.int .i64 r,.int .i64 l,.int .i64 h] 24)) (w.heap.size + 1) #[.int .u8 k,.int .i64 a,.int .i64 y,.slice A n q] 28 (by simp)
   have t0:=Ext.alloc (Ext.alloc (Below.refl w.heap.size w) (.cells #[.int .u32 (id : Int),.int .i64 m,.int .i64 c,.int .i64 r,.int .i64 l,.int .i64 h] 24)) (.cells #[.int .u8 k,.int .i64 a,.int .i64 y,.slice A n q] 28)
   refine (HB.out _).mono ?_
   rintro e w1 ⟨rfl,b1⟩
   have A1:=A0.next b1
   have t1:=Ext.trans t0 b1
   have x1:=A1.cell
   clear A0 t0 b1
   go_wp2_with fail
   refine (HO.out _).mono ?_
   rintro e w2 ⟨rfl,b2⟩
   have A2:=A1.next b2
   have t2:=Ext.alloc (Ext.trans t1 b2) (.cells #[.int .i64 0,.bool false,.bool false] 114)
   have x2:=A2.cell
   have l2:=A2.lt
   clear x1 A1 t1 b2 A2
   go_wp2
   go_ret
   exact ⟨rfl,t2⟩
set_option maxRecDepth 100000 in
set_option maxHeartbeats 1000000 in
theorem scheck_ok (x : Cfg) (hx : x.Ok) (k a y : Int) (A : Option Addr) (n q : Nat) (hp : Placed (x.c * x.r * (x.m - 1)) k a y) (hn : (n : Int) = kWant k y) (w : World) :
 Calls Try.prog 66 #[x.val,.agg #[.int .u8 k,.int .i64 a,.int .i64 y,.slice A n q]] w fun e w'=>e = .returned (.int .i64 0) ∧ Below w.heap.size w w':=by
 have HB:=Lib.hid (blocks_ok x hx)
 have HO:=Lib.hid (of_any k)
 have hcr:=Cfg.crm hx
 have hor:=kMost_or k
 have his:=@kMost_is k
 unfold Placed at hp
 unfold kWant at hn
 obtain ⟨id,m,c,r,l,h⟩:=x
 unfold Cfg.val at *
 dsimp only at *
 clear hx
 generalize c * r * (m - 1) = nb at *
 obtain ⟨hn1,hn2⟩:=hcr
 generalize kMost k = mo at *
 generalize kBytes k = by' at *
 generalize kWrites k = wr at *
 generalize kIs k = is at *
 rcases hor with rfl | ⟨rfl,rfl,rfl⟩
 · obtain rfl:=his rfl
   obtain ⟨h1,h2,h3,h4⟩ : 1 ≤ y ∧ y ≤ 8 ∧ 0 ≤ a ∧ a ≤ nb - y:=by omega
   cases by' with
   | true=>
     have hne : ((n : Int) != y * 128) = false:=by simp at hn ⊢;exact hn
     clear his hp hn
     go_enter Try.func66,Try.ntmps66
     go_wp2_with fail
     have A0:=BoxOf.new' (w.alloc (.cells #[.int .u32 (id : Int),.int .i64 m,.int .i64 c,.int .i64 r,.int .i64 l,.int .i64 h] 24)) (w.heap.size + 1) #[.int .u8 k,.int .i64 a,.int .i64 y,.slice A n q] 28 (by simp)
     have t0:=Ext.alloc (Ext.alloc (Below.refl w.heap.size w) (.cells #[.int .u32 (id : Int),.int .i64 m,.int .i64 c,.int .i64 r,.int .i64 l,.int .i64 h] 24)) (.cells #[.int .u8 k,.int .i64 a,.int .i64 y,.slice A n q] 28)
     refine (HB.out _).mono ?_
     rintro e w1 ⟨rfl,b1⟩
     have A1:=A0.next b1
     have t1:=Ext.trans t0 b1
     have x1:=A1.cell
     clear A0 t0 b1
     go_wp2_with fail
     refine (HO.out _).mono ?_
     rintro e w2 ⟨rfl,b2⟩
     have A2:=A1.next b2
     have t2:=Ext.alloc (Ext.trans t1 b2) (.cells #[.int .i64 8,.bool true,.bool wr] 114)
     have x2:=A2.cell
     have l2:=A2.lt
     clear x1 A1 t1 b2 A2
     go_wp2
     go_ret
     exact ⟨rfl,t2⟩
   | false=>
     have hne : ((n : Int) != 0) = false:=by simp at hn ⊢;exact hn
     clear his hp hn
     go_enter Try.func66,Try.ntmps66
     go_wp2_with fail
     have A0:=BoxOf.new' (w.alloc (.cells #[.int .u32 (id : Int),.int .i64 m,.int .i64 c,.int .i64 r,.int .i64 l,.int .i64 h] 24)) (w.heap.size + 1) #[.int .u8 k,.int .i64 a,.int .i64 y,.slice A n q] 28 (by simp)
     have t0:=Ext.alloc (Ext.alloc (Below.refl w.heap.size w) (.cells #[.int .u32 (id : Int),.int .i64 m,.int .i64 c,.int .i64 r,.int .i64 l,.int .i64 h] 24)) (.cells #[.int .u8 k,.int .i64 a,.int .i64 y,.slice A n q] 28)
     refine (HB.out _).mono ?_
     rintro e w1 ⟨rfl,b1⟩
     have A1:=A0.next b1
     have t1:=Ext.trans t0 b1
     have x1:=A1.cell
     clear A0 t0 b1
     go_wp2_with fail
     refine (HO.out _).mono ?_
     rintro e w2 ⟨rfl,b2⟩
     have A2:=A1.next b2
     have t2:=Ext.alloc (Ext.trans t1 b2) (.cells #[.int .i64 8,.bool false,.bool wr] 114)
     have x2:=A2.cell
     have l2:=A2.lt
     clear x1 A1 t1 b2 A2
     go_wp2
     go_ret
     exact ⟨rfl,t2⟩
 · obtain ⟨rfl,ha,hy⟩ : is = true ∧ a = 0 ∧ y = 0:=hp.elim (fun h=>absurd h.1 (by decide)) (fun h=>⟨h.1,h.2.2⟩)
   obtain ⟨ha1,ha2,hy1,hy2⟩ : 0 ≤ a ∧ a ≤ 0 ∧ 0 ≤ y ∧ y ≤ 0:=by omega
   clear ha hy
   have hne : ((n : Int) != 0) = false:=by simp at hn ⊢;exact hn
   clear his hp hn
   go_enter Try.func66,Try.ntmps66
   go_wp2_with fail
   have A0:=BoxOf.new' (w.alloc (.cells #[.int .u32 (id : Int),.int .i64 m,.int .i64 c,.int .i64 r,.int .i64 l,.int .i64 h] 24)) (w.heap.size + 1) #[.int .u8 k,.int .i64 a,.int .i64 y,.slice A n q] 28 (by simp)
   have t0:=Ext.alloc (Ext.alloc (Below.refl w.heap.size w) (.cells #[.int .u32 (id : Int),.int .i64 m,.int .i64 c,.int .i64 r,.int .i64 l,.int .i64 h] 24)) (.cells #[.int .u8 k,.int .i64 a,.int .i64 y,.slice A n q] 28)
   refine (HB.out _).mono ?_
   rintro e w1 ⟨rfl,b1⟩
   have A1:=A0.next b1
   have t1:=Ext.trans t0 b1
   have x1:=A1.cell
   clear A0 t0 b1
   go_wp2_with fail
   refine (HO.out _).mono ?_
   rintro e w2 ⟨rfl,b2⟩
   have A2:=A1.next b2
   have t2:=Ext.alloc (Ext.trans t1 b2) (.cells #[.int .i64 0,.bool false,.bool false] 114)
   have x2:=A2.cell
   have l2:=A2.lt
   clear x1 A1 t1 b2 A2
   go_wp2
   go_ret
   exact ⟨rfl,t2⟩
end Go.Proofs.Ythapabjlhooglaa
namespace Go.Proofs.Ythapabjlhooglaa
open Go.RowKit
set_option linter.unusedSimpArgs false
set_option linter.unusedVariables false
theorem rwrites_any (k : Int) (w : World) : Calls Try.prog 94 #[.int .u8 k] w fun e w'=>e = .returned (.bool (kWrites k)) ∧ w = w':=by
 by_cases h2 : k = 2
 · subst h2;go_enter Try.func94,Try.ntmps94;go_wp2;go_ret;exact ⟨rfl,rfl⟩
 by_cases h3 : k = 3
 · subst h3;go_enter Try.func94,Try.ntmps94;go_wp2;go_ret;exact ⟨rfl,rfl⟩
 by_cases h5 : k = 5
 · subst h5;go_enter Try.func94,Try.ntmps94;go_wp2;go_ret;exact ⟨rfl,rfl⟩
 have e : kWrites k = false:=decide_eq_false (by omega)
 have g2 : (k == 2) = false:=beq_eq_false_iff_ne.2 h2
 have g3 : (k == 3) = false:=beq_eq_false_iff_ne.2 h3
 have g5 : (k == 5) = false:=beq_eq_false_iff_ne.2 h5
 rw [e]
 clear e h2 h3 h5
 go_enter Try.func94,Try.ntmps94;go_wp2;go_ret;exact ⟨rfl,rfl⟩
theorem rbytes_any (k : Int) (w : World) : Calls Try.prog 71 #[.int .u8 k] w fun e w'=>e = .returned (.bool (kBytes k)) ∧ w = w':=by
 by_cases h2 : k = 2
 · subst h2;go_enter Try.func71,Try.ntmps71;go_wp2;go_ret;exact ⟨rfl,rfl⟩
 by_cases h3 : k = 3
 · subst h3;go_enter Try.func71,Try.ntmps71;go_wp2;go_ret;exact ⟨rfl,rfl⟩
 have e : kBytes k = false:=decide_eq_false (by omega)
 have g2 : (k == 2) = false:=beq_eq_false_iff_ne.2 h2
 have g3 : (k == 3) = false:=beq_eq_false_iff_ne.2 h3
 rw [e]
 clear e h2 h3
 go_enter Try.func71,Try.ntmps71;go_wp2;go_ret;exact ⟨rfl,rfl⟩
def kWhole (k : Int) : Bool:=decide (k = 4 ∨ k = 6)
theorem rwhole8_any (k : Int) (w : World) : Calls Try.prog 92 #[.int .u8 k] w fun e w'=>e = .returned (.bool (kWhole k)) ∧ w = w':=by
 by_cases h2 : k = 4
 · subst h2;go_enter Try.func92,Try.ntmps92;go_wp2;go_ret;exact ⟨rfl,rfl⟩
 by_cases h3 : k = 6
 · subst h3;go_enter Try.func92,Try.ntmps92;go_wp2;go_ret;exact ⟨rfl,rfl⟩
 have e : kWhole k = false:=decide_eq_false (by omega)
 have g2 : (k == 4) = false:=beq_eq_false_iff_ne.2 h2
 have g3 : (k == 6) = false:=beq_eq_false_iff_ne.2 h3
 rw [e]
 clear e h2 h3
 go_enter Try.func92,Try.ntmps92;go_wp2;go_ret;exact ⟨rfl,rfl⟩
instance (nb k a y : Int) : Decidable (Placed nb k a y):=by unfold Placed;infer_instance
theorem kMost_8 {k : Int} (h : k = 1 ∨ k = 2 ∨ k = 3 ∨ k = 5) : kMost k = 8:=if_pos h
theorem kMost_0 {k : Int} (h : ¬ (k = 1 ∨ k = 2 ∨ k = 3 ∨ k = 5)) : kMost k = 0:=if_neg h
set_option maxRecDepth 100000 in
theorem placed_out (x : Cfg) (k a y : Int) (A : Option Addr) (n q : Nat) (hk : k < 1 ∨ (1 ≤ k ∧ 6 < k)) (w : World) :
 Calls Try.prog 70 #[x.val,.agg #[.int .u8 k,.int .i64 a,.int .i64 y,.slice A n q]] w fun e w'=>e = .returned (.bool false) ∧ Below w.heap.size w w':=by
 obtain ⟨id,m,c,r,l,h⟩:=x
 unfold Cfg.val at *
 dsimp only at *
 rcases hk with hk | ⟨hk0,hk⟩
 all_goals
  go_enter Try.func70,Try.ntmps70
  go_wp2
  go_ret
  exact ⟨rfl,Ext.alloc (Ext.alloc (Below.refl _ _) _) _⟩
set_option maxRecDepth 100000 in
theorem placed_whole (x : Cfg) (k a y : Int) (A : Option Addr) (n q : Nat) (hk : k = 4 ∨ k = 6) (w : World) :
 Calls Try.prog 70 #[x.val,.agg #[.int .u8 k,.int .i64 a,.int .i64 y,.slice A n q]] w fun e w'=>e = .returned (.bool (a == 0 && y == 0)) ∧ Below w.heap.size w w':=by
 obtain ⟨id,m,c,r,l,h⟩:=x
 have hw:=rwhole8_any k
 rw [show kWhole k = true from decide_eq_true hk] at hw
 have HW:=Lib.hid hw
 clear hw
 unfold Cfg.val at *
 dsimp only at *
 have hk1 : 1 ≤ k:=by omega
 have hk2 : k ≤ 6:=by omega
 clear hk
 cases ha : (a == 0)
 all_goals
  go_enter Try.func70,Try.ntmps70
  go_wp2_with fail
  refine (HW.out _).mono ?_
  rintro e w1 ⟨rfl,rfl⟩
  go_wp2
  go_ret
  exact ⟨rfl,Ext.alloc (Ext.alloc (Below.refl _ _) _) _⟩
set_option maxRecDepth 100000 in
theorem placed_not (x : Cfg) (k a y : Int) (A : Option Addr) (n q : Nat) (hk : (1 ≤ k ∧ k ≤ 6) ∧ ¬ (k = 4 ∨ k = 6)) (hp : y < 1 ∨ (1 ≤ y ∧ 8 < y) ∨ (1 ≤ y ∧ y ≤ 8 ∧ a < 0)) (w : World) :
 Calls Try.prog 70 #[x.val,.agg #[.int .u8 k,.int .i64 a,.int .i64 y,.slice A n q]] w fun e w'=>e = .returned (.bool false) ∧ Below w.heap.size w w':=by
 obtain ⟨id,m,c,r,l,h⟩:=x
 have hw:=rwhole8_any k
 rw [show kWhole k = false from decide_eq_false hk.2] at hw
 have HW:=Lib.hid hw
 clear hw
 unfold Cfg.val at *
 dsimp only at *
 obtain ⟨⟨hk1,hk2⟩,_⟩:=hk
 rcases hp with hp | ⟨hp1,hp⟩ | ⟨hp1,hp2,hp⟩
 · have d1 : decide (1 ≤ y) = false:=decide_eq_false (by omega)
   go_enter Try.func70,Try.ntmps70
   go_wp2_with fail
   refine (HW.out _).mono ?_
   rintro e w1 ⟨rfl,rfl⟩
   go_wp2_with fail
   go_quiet (fail)
   go_wp2
   go_ret
   exact ⟨rfl,below_drewN' (Ext.alloc (Ext.alloc (Below.refl _ _) _) _) _⟩
 · have d1 : decide (1 ≤ y) = true:=decide_eq_true (by omega)
   have d2 : decide (y ≤ 8) = false:=decide_eq_false (by omega)
   go_enter Try.func70,Try.ntmps70
   go_wp2_with fail
   refine (HW.out _).mono ?_
   rintro e w1 ⟨rfl,rfl⟩
   go_wp2_with fail
   go_quiet (fail)
   go_wp2
   go_ret
   exact ⟨rfl,below_drewN' (Ext.alloc (Ext.alloc (Below.refl _ _) _) _) _⟩
 · have d1 : decide (1 ≤ y) = true:=decide_eq_true (by omega)
   have d2 : decide (y ≤ 8) = true:=decide_eq_true (by omega)
   have d3 : decide (0 ≤ a) = false:=decide_eq_false (by omega)
   go_enter Try.func70,Try.ntmps70
   go_wp2_with fail
   refine (HW.out _).mono ?_
   rintro e w1 ⟨rfl,rfl⟩
   go_wp2_with fail
   go_quiet (fail)
   go_wp2
   go_ret
   exact ⟨rfl,below_drewN' (Ext.alloc (Ext.alloc (Below.refl _ _) _) _) _⟩
set_option maxRecDepth 100000 in
theorem placed_in (x : Cfg) (hx : x.Ok) (k a y : Int) (A : Option Addr) (n q : Nat) (hk : (1 ≤ k ∧ k ≤ 6) ∧ ¬ (k = 4 ∨ k = 6)) (hp : 1 ≤ y ∧ y ≤ 8 ∧ 0 ≤ a) (v : Bool) (hv : decide (a ≤ x.c * x.r * (x.m - 1) - y) = v) (w : World) :
 Calls Try.prog 70 #[x.val,.agg #[.int .u8 k,.int .i64 a,.int .i64 y,.slice A n q]] w fun e w'=>e = .returned (.bool v) ∧ Below w.heap.size w w':=by
 have HB:=Lib.hid (rblocks_ok x hx)
 have hcr:=Cfg.crm hx
 obtain ⟨id,m,c,r,l,h⟩:=x
 have hw:=rwhole8_any k
 rw [show kWhole k = false from decide_eq_false hk.2] at hw
 have HW:=Lib.hid hw
 clear hw hx
 unfold Cfg.val at *
 dsimp only at *
 obtain ⟨⟨hk1,hk2⟩,_⟩:=hk
 obtain ⟨hp1,hp2,hp3⟩:=hp
 generalize c * r * (m - 1) = nb at *
 have d1 : decide (1 ≤ y) = true:=decide_eq_true (by omega)
 have d2 : decide (y ≤ 8) = true:=decide_eq_true (by omega)
 have d3 : decide (0 ≤ a) = true:=decide_eq_true (by omega)
 have q1 : IntKind.i64.wrap (nb - y) = nb - y:=i64_fit (by omega)
 have Q1:=Lib.hid q1
 have D1:=Lib.hid d1
 have D2:=Lib.hid d2
 have D3:=Lib.hid d3
 have HV:=Lib.hid hv
 clear q1 d1 d2 d3 hv hcr
 go_enter Try.func70,Try.ntmps70
 go_wp2_with fail
 have A0:=BoxOf.new' (w.alloc (.cells #[.int .u32 (id : Int),.int .i64 m,.int .i64 c,.int .i64 r,.int .i64 l,.int .i64 h] 24)) (w.heap.size + 1) #[.int .u8 k,.int .i64 a,.int .i64 y,.slice A n q] 28 (by simp)
 have C0:=BoxOf.alloc (BoxOf.new w #[.int .u32 (id : Int),.int .i64 m,.int .i64 c,.int .i64 r,.int .i64 l,.int .i64 h] 24) (.cells #[.int .u8 k,.int .i64 a,.int .i64 y,.slice A n q] 28)
 have t0:=Ext.alloc (Ext.alloc (Below.refl w.heap.size w) (.cells #[.int .u32 (id : Int),.int .i64 m,.int .i64 c,.int .i64 r,.int .i64 l,.int .i64 h] 24)) (.cells #[.int .u8 k,.int .i64 a,.int .i64 y,.slice A n q] 28)
 refine (HW.out _).mono ?_
 rintro e w1 ⟨rfl,rfl⟩
 go_wp2_with fail
 have x0:=A0.cell
 have y0:=C0.cell
 generalize (w.alloc (.cells #[.int .u32 (id : Int),.int .i64 m,.int .i64 c,.int .i64 r,.int .i64 l,.int .i64 h] 24)).alloc (.cells #[.int .u8 k,.int .i64 a,.int .i64 y,.slice A n q] 28) = w0 at A0 C0 t0 x0 y0 ⊢
 have q1:=Q1.out
 have d1:=D1.out
 have d2:=D2.out
 have d3:=D3.out
 have hv:=HV.out
 go_region_held3 (fun w'=>Below w.heap.size w w' ∧ BoxOf w' (w.heap.size + 1) #[.int .u8 k,.int .i64 a,.int .i64 y,.slice A n q] 28 ∧ BoxOf w' w.heap.size #[.int .u32 (id : Int),.int .i64 m,.int .i64 c,.int .i64 r,.int .i64 l,.int .i64 h] 24 ∧ (∀ o,w'.cell? ⟨w.heap.size,o,none⟩ = #[.int .u32 (id : Int),.int .i64 m,.int .i64 c,.int .i64 r,.int .i64 l,.int .i64 h].toList[o]?) ∧ ∀ o,w'.cell? ⟨w.heap.size + 1,o,none⟩ = #[.int .u8 k,.int .i64 a,.int .i64 y,.slice A n q].toList[o]?)
  (first | exact ⟨Ext.drew t0,A0.drew,C0.drew,y0,x0⟩ | exact ⟨Ext.trans (And.left (by assumption)) k3,BoxOf.next (And.left (And.right (by assumption))) k3,BoxOf.next (And.left (And.right (And.right (by assumption)))) k3,(BoxOf.next (And.left (And.right (And.right (by assumption)))) k3).cell,(BoxOf.next (And.left (And.right (by assumption))) k3).cell⟩ | assumption)
  ((go_at_call 93;refine (HB.out _).mono ?_;rintro e w3 ⟨rfl,k3⟩))
 rename_i hH
 obtain ⟨bH,_⟩:=hH
 clear q1 d1 d2 d3 hv x0 y0
 go_wp2
 go_ret
 exact ⟨rfl,bH⟩
end Go.Proofs.Ythapabjlhooglaa
namespace Go.Proofs.Ythapabjlhooglaa
open Go.RowKit
set_option linter.unusedSimpArgs false
set_option linter.unusedVariables false
theorem info_int : ∃ i,Try.prog.info? 3 = some i ∧ i.zero = some (.int .i64 0) ∧ i.size = 1 ∧ i.bytes = 8:=info_parts (by kernel_rfl)
set_option maxRecDepth 100000 in
theorem sblocks_err (x : Cfg) (k a y : Int) (A : Option Addr) (n q : Nat) (E : Int) (hE : (E != 0) = true) (HC : ∀ W,Calls Try.prog 66 #[x.val,.agg #[.int .u8 k,.int .i64 a,.int .i64 y,.slice A n q]] W fun e w'=>e = .returned (.int .i64 E) ∧ Below W.heap.size W w') (w : World) :
 Calls Try.prog 35 #[x.val,.agg #[.int .u8 k,.int .i64 a,.int .i64 y,.slice A n q]] w fun e w'=>e = .returned (.tuple #[.slice none 0 0,.int .i64 E]) ∧ Below w.heap.size w w':=by
 have HC':=Lib.hid HC
 clear HC
 obtain ⟨id,m,c,r,l,h⟩:=x
 unfold Cfg.val at *
 dsimp only at *
 go_enter Try.func35,Try.ntmps35
 go_wp2_with fail
 have A0:=BoxOf.new' (w.alloc (.cells #[.int .u32 (id : Int),.int .i64 m,.int .i64 c,.int .i64 r,.int .i64 l,.int .i64 h] 24)) (w.heap.size + 1) #[.int .u8 k,.int .i64 a,.int .i64 y,.slice A n q] 28 (by simp)
 have C0:=BoxOf.alloc (BoxOf.new w #[.int .u32 (id : Int),.int .i64 m,.int .i64 c,.int .i64 r,.int .i64 l,.int .i64 h] 24) (.cells #[.int .u8 k,.int .i64 a,.int .i64 y,.slice A n q] 28)
 have t0:=Ext.alloc (Ext.alloc (Below.refl w.heap.size w) (.cells #[.int .u32 (id : Int),.int .i64 m,.int .i64 c,.int .i64 r,.int .i64 l,.int .i64 h] 24)) (.cells #[.int .u8 k,.int .i64 a,.int .i64 y,.slice A n q] 28)
 refine (HC'.out _).mono ?_
 rintro e w1 ⟨rfl,b1⟩
 have t1:=Ext.trans t0 b1
 go_wp2
 go_ret2
 exact ⟨rfl,t1⟩
def seqI (a : Int) (k : Nat) : List Value:=(List.range k).map fun (i : Nat)=>Value.int .i64 (a + (i : Int))
theorem seqI_succ (a : Int) (k : Nat) : seqI a (k + 1) = seqI a k ++ [.int .i64 (a + (k : Int))]:=by simp [seqI,List.range_succ]
theorem seqI_len (a : Int) (k : Nat) : (seqI a k).length = k:=by simp [seqI]
set_option maxRecDepth 100000 in
theorem sblocks_ok (x : Cfg) (k a y : Int) (A : Option Addr) (n q : Nat) (hy : 0 ≤ y ∧ y ≤ 8) (ha : 0 ≤ a ∧ a ≤ 1000) (HC : ∀ W,Calls Try.prog 66 #[x.val,.agg #[.int .u8 k,.int .i64 a,.int .i64 y,.slice A n q]] W fun e w'=>e = .returned (.int .i64 0) ∧ Below W.heap.size W w') (w : World) :
 Calls Try.prog 35 #[x.val,.agg #[.int .u8 k,.int .i64 a,.int .i64 y,.slice A n q]] w fun e w'=>∃ v,e = .returned (.tuple #[v,.int .i64 0]) ∧ w'.ownsRow (w.heap.size + 2) 3 1 v y.toNat (seqI a y.toNat) ∧ Below w.heap.size w w':=by
 have HC':=Lib.hid HC
 clear HC
 obtain ⟨i0,hi,hz0,hz1,hz2⟩:=info_int
 obtain ⟨id,m,c,r,l,h⟩:=x
 unfold Cfg.val at *
 dsimp only at *
 obtain ⟨hy1,hy2⟩:=hy
 obtain ⟨ha1,ha2⟩:=ha
 go_enter Try.func35,Try.ntmps35
 go_wp2_with fail
 have A0:=BoxOf.new' (w.alloc (.cells #[.int .u32 (id : Int),.int .i64 m,.int .i64 c,.int .i64 r,.int .i64 l,.int .i64 h] 24)) (w.heap.size + 1) #[.int .u8 k,.int .i64 a,.int .i64 y,.slice A n q] 28 (by simp)
 have C0:=BoxOf.alloc (BoxOf.new w #[.int .u32 (id : Int),.int .i64 m,.int .i64 c,.int .i64 r,.int .i64 l,.int .i64 h] 24) (.cells #[.int .u8 k,.int .i64 a,.int .i64 y,.slice A n q] 28)
 have t0:=Ext.alloc (Ext.alloc (Below.refl w.heap.size w) (.cells #[.int .u32 (id : Int),.int .i64 m,.int .i64 c,.int .i64 r,.int .i64 l,.int .i64 h] 24)) (.cells #[.int .u8 k,.int .i64 a,.int .i64 y,.slice A n q] 28)
 refine (HC'.out _).mono ?_
 rintro e w1 ⟨rfl,b1⟩
 have A1:=A0.next b1
 have t1:=Ext.trans t0 b1
 have x1:=A1.cell
 clear A0 C0 t0 b1
 go_wp2
 go_loopw [4,16] (fun v i wr=>∃ j : Nat,(j : Int) ≤ y ∧ i = .int .i64 j ∧ wr.ownsRow (w.heap.size + 2) 3 1 v j (seqI a j) ∧ Below w.heap.size w wr ∧ BoxOf wr (w.heap.size + 1) #[.int .u8 k,.int .i64 a,.int .i64 y,.slice A n q] 28) (fun _ i _=>y.toNat - (intOf i).toNat)
 case atStart=>exact ⟨0,by omega,rfl,⟨rfl,.inl ⟨rfl,rfl⟩⟩,t1,A1⟩
 case round=>
  obtain ⟨j,hj,rfl,hown,bj,Aj⟩:=hrel
  have xj:=Aj.cell
  have HA:=Lib.hid Aj
  clear Aj
  by_cases hlt : (j : Int) < y
  · have hrd : Rd (wr.alloc (.cells #[.int .i64 (a + (j : Int))] 3)) (some ⟨wr.heap.size,0,none⟩) [.int .i64 (a + (j : Int))]:=.inr ⟨wr.heap.size,0,rfl,fun o ho=>by
     have h0 : o = 0:=by simpa using ho
     subst h0
     rw [World.cell?_alloc_mark]
     rfl⟩
    have HR:=Lib.hid hrd
    have HO:=Lib.hid (hown.alloc (.cells #[.int .i64 (a + (j : Int))] 3))
    have HS:=Lib.hid (seqI_succ a j)
    have hsz:=bj.size
    have HS2 : Hid (w.heap.size + 2 ≤ wr.heap.size):=HA.out.lt
    have l2:=HA.out.lt
    clear hrd hown
    go_wp2_with (at_builtin;refine wpList_append_rd _ rfl (.tmp 19) (.tmp 24) _ rfl (w.heap.size + 2) 3 i0 (.int .i64 0) 1 8 Try.underlying78 hi hz0 hz1 hz2 rfl (by decide) u4 j (seqI a j) rfl HO.out (some ⟨wr.heap.size,0,none⟩) 1 1 [.int .i64 (a + (j : Int))] rfl rfl HR.out (by simp [Value.oneCell']) (by unfold maxLen;omega) (by omega) (by have:=HS2.out;simp;omega) ?_;intro v' w2 hown2 hgrow2 _)
    go_roundw
    case rel=>
     refine ⟨j + 1,by omega,by go_num,by rw [HS.out];exact hown2,?_,(HA.out.alloc _).grown hgrow2 (own_ne HO.out (by omega))⟩
     exact Below.grown (Ext.alloc bj _) hgrow2 (by simp;omega) (fun k hk=>by have:=own_block HO.out hk;omega)
    case measure=>simp [intOf];omega
  · have hjy : j = y.toNat:=by omega
    go_wp2
    go_ret2
    exact ⟨_,rfl,by rw [← hjy];exact hown,bj⟩
end Go.Proofs.Ythapabjlhooglaa
