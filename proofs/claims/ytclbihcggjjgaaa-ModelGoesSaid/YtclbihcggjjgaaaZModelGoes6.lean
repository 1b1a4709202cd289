/- What this claim needs of my texts, merged and shortened by a program (part 6). -/
import Derived.Lib.SliceRun
import Derived.Deep.RegionLaw
import Derived.Test.YtclbihcggjjgaaaZModelGoes5
namespace Go.Proofs.Ytclbihcggjjgaaa
open Go Go.RowKit
set_option linter.unusedVariables false
def But (t : TypeId) (w w' : World) : Prop:=∀ b,b < w.heap.size → w'.heap[b]? = w.heap[b]? ∨ ∃ cs,BoxOf w b cs t
theorem But.of_below {t : TypeId} {w w' : World} (h : Below w.heap.size w w') : But t w w':=fun b hb=>.inl (h.block b hb)
theorem BoxOf.but {t t' : TypeId} {w w' : World} {b : Nat} {cs : Array Value} (h : BoxOf w b cs t') (hb : But t w w') (ht : t' ≠ t) : BoxOf w' b cs t':=by
 rcases hb b h.lt with e | ⟨ds,e⟩
 · unfold BoxOf at *
   rw [e];exact h
 · unfold BoxOf at *
   rw [h] at e
   injection e with e
   injection e with _ e
   exact absurd e ht
theorem box_diff {w : World} {b b' : Nat} {cs ds : Array Value} {t t' : TypeId} (h : BoxOf w b cs t) (h' : BoxOf w b' ds t') (ht : t ≠ t') : b ≠ b':=by
 intro e
 subst e
 unfold BoxOf at *
 rw [h] at h'
 injection h' with e
 injection e with _ e
 exact ht e
def RowS (w : World) (By : Nat → Prop) (lo g o c : Nat) (zs : List (List UInt8)) : Prop:=
 ∃ cur : Array Value,BoxOf w g cur 29 ∧ zs.length ≤ c ∧ c ≤ maxLen ∧ o + c ≤ cur.size ∧ (lo ≤ g ∧ ¬ By g) ∧
  ∀ k (h : k < zs.length),∃ u,cur.toList[o + k]? = some u ∧ RdIn w By (.sl .byte) zs[k] [u]
def MayS (w : World) (By : Nat → Prop) (lo R : Nat) (ys : List (List (List UInt8))) : Prop:=
 ∃ (cells : Array Value) (gf of cf : Nat → Nat),BoxOf w R cells 30 ∧ (lo ≤ R ∧ ¬ By R) ∧
  (∀ i (h : i < ys.length),cells.toList[i]? = some (.slice (some ⟨gf i,of i,none⟩) (ys[i]).length (cf i)) ∧ RowS w By lo (gf i) (of i) (cf i) ys[i]) ∧
  (∀ i j,i < ys.length → j < ys.length → gf i = gf j → i = j)
theorem RowS.frame {w w' : World} {By By' : Nat → Prop} {lo g o c : Nat} {zs : List (List UInt8)} (h : RowS w By lo g o c zs) (hg : w'.heap[g]? = w.heap[g]?) (hb : ∀ b,By b → w'.heap[b]? = w.heap[b]?) (hB : ∀ b,By b → By' b) (hn : ¬ By' g) : RowS w' By' lo g o c zs:=by
 obtain ⟨cur,h1,h2,h3,h4,h5,h6⟩:=h
 refine ⟨cur,by unfold BoxOf at *;rw [hg];exact h1,h2,h3,h4,⟨h5.1,hn⟩,fun k hk=>?_⟩
 obtain ⟨u,h7,h8⟩:=h6 k hk
 exact ⟨u,h7,(h8.frame hb).mono hB⟩
theorem MayS.but {w w' : World} {By : Nat → Prop} {lo R : Nat} {ys : List (List (List UInt8))} {t : TypeId} (h : MayS w By lo R ys) (ht1 : 30 ≠ t) (ht2 : 29 ≠ t) (hb : But t w w') (hB : ∀ b,By b → w'.heap[b]? = w.heap[b]?) : MayS w' By lo R ys:=by
 obtain ⟨cells,gf,of,cf,h1,h2,h3,h4⟩:=h
 refine ⟨cells,gf,of,cf,h1.but hb ht1,h2,fun i hi=>⟨(h3 i hi).1,?_⟩,h4⟩
 obtain ⟨cur,k1,k2,k3,k4,k5,k6⟩:=(h3 i hi).2
 refine ⟨cur,k1.but hb ht2,k2,k3,k4,k5,fun k hk=>?_⟩
 obtain ⟨u,h7,h8⟩:=k6 k hk
 exact ⟨u,h7,h8.frame hB⟩
theorem MayS.row {w : World} {By : Nat → Prop} {lo R : Nat} {ys : List (List (List UInt8))} (h : MayS w By lo R ys) {k : Nat} (hk : k < ys.length) :
 ∃ (cells : Array Value) (g o c : Nat),BoxOf w R cells 30 ∧ (lo ≤ R ∧ ¬ By R) ∧ cells.toList[k]? = some (.slice (some ⟨g,o,none⟩) (ys[k]).length c) ∧ RowS w By lo g o c ys[k] ∧
  ∀ (w' : World) (By' : Nat → Prop) (g' o' c' : Nat) (zs : List (List UInt8)),(∀ b,b < w.heap.size → b ≠ R → b ≠ g → w'.heap[b]? = w.heap[b]?) →
     BoxOf w' R (cells.setIfInBounds k (.slice (some ⟨g',o',none⟩) zs.length c')) 30 → RowS w' By' lo g' o' c' zs → (g' = g ∨ w.heap.size ≤ g') →
     (∀ b,By b → b < w.heap.size ∧ By' b) → (∀ b,b < w.heap.size → By' b → By b) → MayS w' By' lo R (ys.set k zs):=by
 obtain ⟨cells,gf,of,cf,h1,h2,h3,h4⟩:=h
 refine ⟨cells,gf k,of k,cf k,h1,h2,(h3 k hk).1,(h3 k hk).2,?_⟩
 intro w' By' g' o' c' zs hf hR hrow hg hB hB'
 have hlt : ∀ i,i < ys.length → gf i < w.heap.size:=fun i hi=>by
  obtain ⟨cur,k1,_⟩:=(h3 i hi).2
  exact k1.lt
 have hnB : ∀ i,i < ys.length → ¬ By (gf i):=fun i hi=>by
  obtain ⟨cur,_,_,_,_,k5,_⟩:=(h3 i hi).2
  exact k5.2
 have hkc : k < cells.toList.length:=(List.getElem?_eq_some_iff.1 (h3 k hk).1).1
 refine ⟨_,fun i=>if i = k then g' else gf i,fun i=>if i = k then o' else of i,fun i=>if i = k then c' else cf i,hR,⟨h2.1,fun h=>h2.2 (hB' R h1.lt h)⟩,fun i hi=>?_,fun i j hi hj e=>?_⟩
 · rw [List.length_set] at hi
   by_cases e : i = k
   · subst e
     simp only [if_true,List.getElem_set_self]
     exact ⟨by rw [Array.toList_setIfInBounds,List.getElem?_set_self hkc],hrow⟩
   · simp only [if_neg e,List.getElem_set_ne (fun h=>e h.symm)]
     refine ⟨?_,?_⟩
     · rw [Array.toList_setIfInBounds,List.getElem?_set_ne (fun h=>e h.symm)]
       exact (h3 i hi).1
     · have hne : gf i ≠ gf k:=fun h=>e (h4 i k hi hk h)
       have hneR : gf i ≠ R:=by
        obtain ⟨cur,k1,_⟩:=(h3 i hi).2
        exact box_diff k1 h1 (by decide)
       refine (h3 i hi).2.frame (hf _ (hlt i hi) hneR hne) (fun b hb=>hf b (hB b hb).1 (fun e=>h2.2 (e ▸ hb)) (fun e=>hnB k hk (e ▸ hb))) (fun b hb=>(hB b hb).2) (fun h=>hnB i hi (hB' _ (hlt i hi) h))
 · rw [List.length_set] at hi hj
   by_cases ei : i = k <;> by_cases ej : j = k
   · rw [ei,ej]
   · subst ei
     simp only [if_true,if_neg ej] at e
     rcases hg with hg | hg
     · exact h4 i j hi hj (hg.symm.trans e)
     · have:=hlt j hj;omega
   · subst ej
     simp only [if_true,if_neg ei] at e
     rcases hg with hg | hg
     · exact h4 i j hi hj (e.trans hg)
     · have:=hlt i hi;omega
   · simp only [if_neg ei,if_neg ej] at e
     exact h4 i j hi hj e
theorem MayS.lt {w : World} {By : Nat → Prop} {lo R : Nat} {ys : List (List (List UInt8))} (h : MayS w By lo R ys) : R < w.heap.size:=by
 obtain ⟨cells,gf,of,cf,h1,h2,h3,h4⟩:=h
 exact h1.lt
theorem RowS.lt {w : World} {By : Nat → Prop} {lo g o c : Nat} {zs : List (List UInt8)} (h : RowS w By lo g o c zs) : g < w.heap.size:=by
 obtain ⟨cur,h1,_⟩:=h
 exact h1.lt
theorem RowS.rdin {w : World} {By : Nat → Prop} {lo g o c : Nat} {zs : List (List UInt8)} (h : RowS w By lo g o c zs) (hB : ∀ b,By b → NewB lo w b) (hz : zs.length ≤ 1000) : RdIn w (NewB lo w) (.sl (.sl .byte)) zs [.slice (some ⟨g,o,none⟩) zs.length c]:=by
 obtain ⟨cur,h1,h2,h3,h4,h5,h6⟩:=h
 refine rdin_sl.2 ⟨_,_,rfl,h2,h3,by show zs.length * 24 ≤ _;omega,.inr ⟨g,o,rfl,⟨h5.1,h1.lt,_,_,h1⟩,fun i hi=>?_⟩⟩
 obtain ⟨u,h7,h8⟩:=h6 i hi
 refine ⟨[u],fun j hj=>?_,h8.mono hB⟩
 have hj0 : j = 0:=by have : j < 1:=hj;omega
 subst hj0
 show w.cell? ⟨g,o + i * 1 + 0,none⟩ = some u
 rw [Nat.mul_one,Nat.add_zero,h1.cell]
 exact h7
theorem MayS.rdin {w : World} {By : Nat → Prop} {lo R : Nat} {ys : List (List (List UInt8))} (h : MayS w By lo R ys) {cR : Nat} (hc : ys.length ≤ cR ∧ cR ≤ maxLen) (hl : ys.length ≤ 1000) (hB : ∀ b,By b → NewB lo w b) (hz : ∀ i (hi : i < ys.length),(ys[i]).length ≤ 1000) : RdIn w (NewB lo w) (.sl (.sl (.sl .byte))) ys [.slice (some ⟨R,0,none⟩) ys.length cR]:=by
 obtain ⟨cells,gf,of,cf,h1,h2,h3,h4⟩:=h
 refine rdin_sl.2 ⟨_,_,rfl,hc.1,hc.2,by show ys.length * 24 ≤ _;omega,.inr ⟨R,0,rfl,⟨h2.1,h1.lt,_,_,h1⟩,fun i hi=>?_⟩⟩
 refine ⟨_,fun j hj=>?_,(h3 i hi).2.rdin hB (hz i hi)⟩
 have hj0 : j = 0:=by have : j < 1:=hj;omega
 subst hj0
 show w.cell? ⟨R,0 + i * 1 + 0,none⟩ = some _
 rw [Nat.mul_one,Nat.add_zero,Nat.zero_add,h1.cell]
 exact (h3 i hi).1
def MkS (w : World) (By : Nat → Prop) (lo : Nat) (v : Value) (b : Nat) (ms : List Int) : Prop:=
 (∀ x ∈ ms,IsInt x) ∧ ∃ A c,v = .slice A ms.length c ∧ ms.length ≤ c ∧ c ≤ maxLen ∧ ms.length * 8 ≤ 140737488355328 ∧
   (ms = [] ∨ ∃ o cur,A = some ⟨b,o,none⟩ ∧ BoxOf w b cur 3 ∧ (lo ≤ b ∧ ¬ By b) ∧ ∀ q (h : q < ms.length),cur.toList[o + q]? = some (.int .i64 ms[q]))
def GoE (w : World) (By : Nat → Prop) (lo : Nat) (at' : Nat → Option Value) (b : Nat) (g : GoTy.T) : Prop:=
 ∃ vd vm,(at' 0 = some (.int .i64 (nuOf g)) ∧ at' 1 = some (.int .u8 ((kiOf g).toNat : Int)) ∧ at' 2 = some (.int .i64 (atOf g)) ∧ at' 3 = some (.int .i64 (manyOf g)) ∧ at' 4 = some vd ∧ at' 5 = some vm) ∧
  (IsInt (nuOf g) ∧ IsInt (atOf g) ∧ IsInt (manyOf g)) ∧ RdIn w By (.sl .byte) (datOf g) [vd] ∧ MkS w By lo vm b (mksOf g)
def GoS (w : World) (By : Nat → Prop) (lo : Nat) (B : Option Addr) (d : Nat) (gs : List GoTy.T) : Prop:=
 gs = [] ∨ ∃ (G o : Nat) (cells : Array Value) (bf : Nat → Nat),B = some ⟨G,o,none⟩ ∧ BoxOf w G cells 64 ∧ (lo ≤ G ∧ ¬ By G ∧ o + d * 6 ≤ cells.size) ∧
  (∀ j (h : j < gs.length),GoE w By lo (fun q=>cells.toList[o + j * 6 + q]?) (bf j) gs[j]) ∧
  (∀ i j (hi : i < gs.length) (hj : j < gs.length),mksOf gs[i] ≠ [] → mksOf gs[j] ≠ [] → bf i = bf j → i = j)
theorem MkS.frame {w w' : World} {By By' : Nat → Prop} {lo : Nat} {v : Value} {b : Nat} {ms : List Int} (h : MkS w By lo v b ms) (hf : ms ≠ [] → w'.heap[b]? = w.heap[b]?) (hB : b < w.heap.size → By' b → By b) : MkS w' By' lo v b ms:=by
 obtain ⟨h0,A,c,h1,h2,h3,h4,h5⟩:=h
 refine ⟨h0,A,c,h1,h2,h3,h4,?_⟩
 rcases h5 with h5 | ⟨o,cur,h6,h7,h8,h9⟩
 · exact .inl h5
 · by_cases he : ms = []
   · exact .inl he
   · exact .inr ⟨o,cur,h6,by have:=hf he;unfold BoxOf at *;rw [this];exact h7,⟨h8.1,fun h=>h8.2 (hB h7.lt h)⟩,h9⟩
theorem GoE.frame {w w' : World} {By By' : Nat → Prop} {lo : Nat} {at' at2 : Nat → Option Value} {b : Nat} {g : GoTy.T} (h : GoE w By lo at' b g) (ha : ∀ q,q < 6 → at2 q = at' q) (hf : mksOf g ≠ [] → w'.heap[b]? = w.heap[b]?) (hb : ∀ b,By b → w'.heap[b]? = w.heap[b]?) (hB : ∀ b,By b → By' b) (hB' : ∀ b,b < w.heap.size → By' b → By b) : GoE w' By' lo at2 b g:=by
 obtain ⟨vd,vm,⟨h0,h1,h2,h3,h4,h5⟩,h6,h7,h8⟩:=h
 exact ⟨vd,vm,⟨by rw [ha 0 (by decide)];exact h0,by rw [ha 1 (by decide)];exact h1,by rw [ha 2 (by decide)];exact h2,by rw [ha 3 (by decide)];exact h3,by rw [ha 4 (by decide)];exact h4,by rw [ha 5 (by decide)];exact h5⟩,h6,(h7.frame hb).mono hB,h8.frame hf (hB' b)⟩
theorem GoS.but {w w' : World} {By By' : Nat → Prop} {lo : Nat} {B : Option Addr} {d : Nat} {gs : List GoTy.T} {t : TypeId} (h : GoS w By lo B d gs) (ht1 : 64 ≠ t) (ht2 : 3 ≠ t) (hb : But t w w') (hB : ∀ b,By b → w'.heap[b]? = w.heap[b]?) (hBB : ∀ b,By b → By' b) (hBn : ∀ b,b < w.heap.size → By' b → By b) : GoS w' By' lo B d gs:=by
 rcases h with h | ⟨G,o,cells,bf,h1,h2,h3,h4,h5⟩
 · exact .inl h
 · refine .inr ⟨G,o,cells,bf,h1,h2.but hb ht1,⟨h3.1,fun h=>h3.2.1 (hBn G h2.lt h),h3.2.2⟩,fun j hj=>?_,h5⟩
   obtain ⟨vd,vm,k0,k1,k2,k3⟩:=h4 j hj
   refine ⟨vd,vm,k0,k1,(k2.frame hB).mono hBB,?_⟩
   obtain ⟨m0,A,c,m1,m2,m3,m4,m5⟩:=k3
   refine ⟨m0,A,c,m1,m2,m3,m4,?_⟩
   rcases m5 with m5 | ⟨o',cur,m6,m7,m8,m9⟩
   · exact .inl m5
   · exact .inr ⟨o',cur,m6,m7.but hb ht2,⟨m8.1,fun h=>m8.2 (hBn _ m7.lt h)⟩,m9⟩
theorem MayS.mono {w w' : World} {By By' : Nat → Prop} {lo R : Nat} {ys : List (List (List UInt8))} (h : MayS w By lo R ys) (hb : Below w.heap.size w w') (hlt : ∀ b,By b → b < w.heap.size) (hBB : ∀ b,By b → By' b) (hBn : ∀ b,b < w.heap.size → By' b → By b) : MayS w' By' lo R ys:=by
 obtain ⟨cells,gf,of,cf,h1,h2,h3,h4⟩:=h
 refine ⟨cells,gf,of,cf,h1.next hb,⟨h2.1,fun h=>h2.2 (hBn _ h1.lt h)⟩,fun i hi=>⟨(h3 i hi).1,?_⟩,h4⟩
 have hl:=(h3 i hi).2.lt
 refine (h3 i hi).2.frame (hb.block _ hl) (fun b hb'=>hb.block b (hlt b hb')) hBB (fun h=>?_)
 obtain ⟨cur,_,_,_,_,k5,_⟩:=(h3 i hi).2
 exact k5.2 (hBn _ hl h)
theorem GoS.mono {w w' : World} {By By' : Nat → Prop} {lo : Nat} {B : Option Addr} {d : Nat} {gs : List GoTy.T} (h : GoS w By lo B d gs) (hb : Below w.heap.size w w') (hlt : ∀ b,By b → b < w.heap.size) (hBB : ∀ b,By b → By' b) (hBn : ∀ b,b < w.heap.size → By' b → By b) : GoS w' By' lo B d gs:=
 h.but (t:=29) (by decide) (by decide) (But.of_below hb) (fun b hb'=>hb.block b (hlt b hb')) hBB hBn
theorem MkS.rdin {w : World} {By : Nat → Prop} {lo : Nat} {v : Value} {b : Nat} {ms : List Int} (h : MkS w By lo v b ms) : RdIn w (NewB lo w) (.sl .int) ms [v]:=by
 obtain ⟨h0,A,c,rfl,h2,h3,h4,h5⟩:=h
 refine rdin_sl.2 ⟨_,_,rfl,h2,h3,h4,?_⟩
 rcases h5 with rfl | ⟨o,cur,h6,h7,h8,h9⟩
 · exact .inl rfl
 · refine .inr ⟨b,o,h6,⟨h8.1,h7.lt,_,_,h7⟩,fun i hi=>⟨[.int .i64 (ms[i]'hi)],fun j hj=>?_,rdin_int.2 ⟨rfl,h0 _ (List.getElem_mem hi)⟩⟩⟩
   have hj0 : j = 0:=by have : j < 1:=hj;omega
   subst hj0
   show w.cell? ⟨b,o + i * 1 + 0,none⟩ = _
   rw [Nat.mul_one,Nat.add_zero,h7.cell]
   exact h9 i hi
theorem going_mk' {w : World} {S : Nat → Prop} {g : GoTy.T} {v u : Value} (h0 : IsInt (nuOf g)) (h1 : IsInt (atOf g)) (h2 : IsInt (manyOf g)) (h : RdIn w S (.sl .byte) (datOf g) [v]) (h3 : RdIn w S (.sl .int) (mksOf g) [u]) : RdIn w S GoTy g [.int .i64 (nuOf g),.int .u8 ((kiOf g).toNat : Int),.int .i64 (atOf g),.int .i64 (manyOf g),v,u]:=by
 obtain ⟨nu,⟨ki,a,y,bs,x⟩,ms,z⟩:=g
 exact going_mk h0 h1 h2 h h3
theorem GoS.rdin {w : World} {By : Nat → Prop} {lo : Nat} {B : Option Addr} {gs : List GoTy.T} {d : Nat} (h : GoS w By lo B d gs) (hc : gs.length ≤ d ∧ d ≤ maxLen) (hl : gs.length ≤ 1000) (hB : ∀ b,By b → NewB lo w b) : RdIn w (NewB lo w) (.sl GoTy) gs [.slice B gs.length d]:=by
 refine rdin_sl.2 ⟨_,_,rfl,hc.1,hc.2,by show gs.length * 80 ≤ _;omega,?_⟩
 rcases h with h | ⟨G,o,cells,bf,h1,h2,h3,h4,h5⟩
 · exact .inl h
 · refine .inr ⟨G,o,h1,⟨h3.1,h2.lt,_,_,h2⟩,fun j hj=>?_⟩
   obtain ⟨vd,vm,⟨k0,k1,k2,k3,k4,k5⟩,⟨i0,i1,i2⟩,k7,k8⟩:=h4 j hj
   refine ⟨[.int .i64 (nuOf (gs[j]'hj)),.int .u8 ((kiOf (gs[j]'hj)).toNat : Int),.int .i64 (atOf (gs[j]'hj)),.int .i64 (manyOf (gs[j]'hj)),vd,vm],fun q hq=>?_,?_⟩
   · have hq6 : q < 6:=hq
     show w.cell? ⟨G,o + j * 6 + q,none⟩ = _
     rw [h2.cell]
     have : q = 0 ∨ q = 1 ∨ q = 2 ∨ q = 3 ∨ q = 4 ∨ q = 5:=by omega
     rcases this with rfl | rfl | rfl | rfl | rfl | rfl
     · exact k0
     · exact k1
     · exact k2
     · exact k3
     · exact k4
     · exact k5
   · exact going_mk' i0 i1 i2 (k7.mono hB) k8.rdin
end Go.Proofs.Ytclbihcggjjgaaa
namespace Go.Proofs.Ytclbihcggjjgaaa
open Go Go.RowKit
set_option linter.unusedVariables false
set_option linter.unusedSimpArgs false
theorem box_setCells {g : Nat} {t : TypeId} : ∀ (vs : List Value) (o : Nat) (w : World) (cur : Array Value),BoxOf w g cur t → o + vs.length ≤ cur.size →
 ∃ cur' : Array Value,BoxOf (w.setCells g o vs) g cur' t ∧ cur'.size = cur.size ∧ ∀ q,cur'.toList[q]? = if o ≤ q ∧ q < o + vs.length then vs[q - o]? else cur.toList[q]?
 | [],o,w,cur,h,_=>⟨cur,h,rfl,fun q=>by rw [if_neg (by simp;try omega)]⟩
 | v :: r,o,w,cur,h,hl=>by
   have hl' : o + (r.length + 1) ≤ cur.size:=hl
   obtain ⟨cur',h1,h2,h3⟩:=box_setCells r (o + 1) (w.setCell ⟨g,o,none⟩ v) (cur.setIfInBounds o v) (mbox_self h o v) (by rw [Array.size_setIfInBounds];omega)
   refine ⟨cur',h1,by rw [h2,Array.size_setIfInBounds],fun q=>?_⟩
   rw [h3,List.length_cons,Array.toList_setIfInBounds]
   by_cases h4 : o + 1 ≤ q ∧ q < o + 1 + r.length
   · rw [if_pos h4,if_pos (by omega),show q - o = (q - (o + 1)) + 1 by omega,List.getElem?_cons_succ]
   · rw [if_neg h4]
     by_cases h5 : q = o
     · subst h5
       rw [if_pos (by omega),Nat.sub_self,List.getElem?_cons_zero,List.getElem?_set_self (by rw [Array.length_toList];omega)]
     · rw [if_neg (by omega),List.getElem?_set_ne (fun e=>h5 e.symm)]
theorem grown_setCells (g : Nat) : ∀ (vs : List Value) (o : Nat) (w : World),w.grownBy (w.setCells g o vs) (some g)
 | [],o,w=>World.grownBy.refl w _
 | v :: r,o,w=>by
   have h:=grown_setCells g r (o + 1) (w.setCell ⟨g,o,none⟩ v)
   refine ⟨h.os,h.tape,h.output,by have:=h.size;rwa [msize] at this,fun k hk hne=>?_⟩
   refine (h.block k (by rw [msize];exact hk) hne).trans (Below.heap_setCell _ _ _ _ (fun e=>hne (by rw [e])))
theorem run_clear_any {P : Program} (w : World) (t e ty : TypeId) (z : Value) (ht : P.underlying t = some (.slice e)) (hv : ∀ w,(zeroValue e).run P w = .ok z w) (sz : Nat) (hz : z.cells.size = sz) (h1 : ∀ i,i < z.cells.size → (z.cells[i]!).oneCell' = true) (b o n c : Nat) (hn : 0 < n)
 (hc : ∀ j,j < n * sz → (w.cell? ⟨b,o + j,none⟩).isSome = true) (hf : ∀ j,j < n * sz → w.frozen? ⟨b,o + j,none⟩ = false) :
 (Builtin.clear_ #[t] ty #[.slice (some ⟨b,o,none⟩) n c]).run P w = .ok (.tuple #[]) (w.setCells b o (Builtin.zeroCells z.cells n).toList):=by
 have hl : (Builtin.zeroCells z.cells n).toList.length = n * sz:=by rw [Array.length_toList,size_zeroCells,hz]
 have hst:=run_storeCells_cells (P:=P) b o (Builtin.zeroCells z.cells n).toList 0 w (by rw [hl];simpa using hc) (by rw [hl];simpa using hf) (by
  intro v hv'
  unfold Builtin.zeroCells at hv'
  simp only [Array.toList_map,List.mem_map] at hv'
  obtain ⟨i,hi,rfl⟩:=hv'
  refine h1 _ (Nat.mod_lt _ ?_)
  rw [Array.mem_toList_iff,Array.mem_range] at hi
  exact Nat.pos_of_ne_zero fun e=>by rw [e,Nat.mul_zero] at hi;omega)
 simp only [Nat.add_zero] at hst
 obtain ⟨m,rfl⟩ : ∃ m,n = m + 1:=⟨n - 1,by omega⟩
 simp [Builtin.clear_,run_underlying ht,hv,hst]
def DelIs (g o sz n i j : Nat) (cur : Array Value) (t : TypeId) (w w' : World) : Prop:=
 w.grownBy w' (some g) ∧ ∃ cur' : Array Value,BoxOf w' g cur' t ∧ cur'.size = cur.size ∧ ∀ q,q < (n - (j - i)) * sz → cur'.toList[o + q]? = cur.toList[o + (if q < i * sz then q else q + (j - i) * sz)]?
set_option maxHeartbeats 4000000 in
set_option maxRecDepth 1000000 in
theorem delL_any (g o n c i j : Nat) (cur : Array Value) (w : World) (hB : BoxOf w g cur 29) (hn : n ≤ c) (hm : c ≤ maxLen) (hoc : o + c * 1 ≤ cur.size) (hij : i ≤ j) (hj : j ≤ n) (hone : ∀ q,q < n * 1 → ∃ u,cur.toList[o + q]? = some u ∧ u.oneCell' = true) :
 Calls Try.prog 88 #[.slice (some ⟨g,o,none⟩) n c,.int .i64 (i : Int),.int .i64 (j : Int)] w fun e w'=>e = .returned (.slice (some ⟨g,o,none⟩) (n - (j - i)) c) ∧ DelIs g o 1 n i j cur 29 w w':=by
 by_cases heq : i = j
 · subst heq
   have hi : i ≤ n:=hj
   have h0 : Calls Try.prog 88 #[.slice (some ⟨g,o,none⟩) n c,.int .i64 (i : Int),.int .i64 (i : Int)] w fun e w'=>e = .returned (.slice (some ⟨g,o,none⟩) n c) ∧ w' = w:=by
    clear hB hone
    have hc9 : i ≤ c:=by omega
    have hm9 : c ≤ 9223372036854775807:=hm
    go_enter Try.func88,Try.ntmps88
    go_wp2
    all_goals (go_ret;exact ⟨rfl,rfl⟩)
   refine h0.mono ?_
   rintro e w' ⟨rfl,rfl⟩
   exact ⟨by rw [Nat.sub_self,Nat.sub_zero],World.grownBy.refl _ _,cur,hB,rfl,fun q hq=>by
    have e1 : (if q < i * 1 then q else q + (i - i) * 1) = q:=by rw [Nat.sub_self];simp
    rw [e1]⟩
 · have hlt : i < j:=by omega
   obtain ⟨news,hnews⟩ : ∃ news,news = (cur.toList.drop (o + j * 1)).take ((n - j) * 1):=⟨_,rfl⟩
   have hjn : j * 1 + (n - j) * 1 = n * 1:=by rw [← Nat.add_mul];congr 1;omega
   have hnc : n * 1 ≤ c * 1:=Nat.mul_le_mul_right _ hn
   have hlen : news.length = (n - j) * 1:=by rw [hnews,List.length_take,List.length_drop,Array.length_toList];omega
   have hget : ∀ t,t < (n - j) * 1 → news[t]? = cur.toList[o + j * 1 + t]?:=by
    intro t ht
    rw [hnews,List.getElem?_take,if_pos ht,List.getElem?_drop]
   obtain ⟨A,hA,hsrc⟩ : ∃ A : Addr,(if c = j then some (⟨g,o,none⟩ : Addr) else some ⟨g,o + j * 1,none⟩) = some A ∧ Hid (∀ t u,news[t]? = some u → w.drew.cell? (A.add t) = some u):=by
    by_cases h : c = j
    · refine ⟨⟨g,o,none⟩,by simp [h],fun t u hu=>?_⟩
      have h0 : news.length = 0:=by rw [hlen,show n - j = 0 by omega,Nat.zero_mul]
      rw [List.length_eq_zero_iff.1 h0] at hu
      simp at hu
    · refine ⟨⟨g,o + j * 1,none⟩,by simp [h],fun t u hu=>?_⟩
      have ht : t < (n - j) * 1:=by
       have:=(List.getElem?_eq_some_iff.1 hu).1
       rwa [hlen] at this
      rw [hget t ht] at hu
      rw [Addr.add_lit]
      exact (hB.drew.cell _).trans hu
   have s1 : Hid (news.length = (n - j) * 1):=hlen
   have s2 : Hid (∀ u ∈ news,u.oneCell' = true):=by
    intro u hu
    obtain ⟨t,ht,rfl⟩:=List.getElem_of_mem hu
    have ht' : t < (n - j) * 1:=by rw [← hlen];exact ht
    have h1:=hget t ht'
    rw [List.getElem?_eq_getElem ht] at h1
    obtain ⟨u,hu1,hu2⟩:=hone (j * 1 + t) (by omega)
    rw [← Nat.add_assoc] at hu1
    rw [hu1] at h1
    rw [Option.some.inj h1]
    exact hu2
   have hij5 : i * 1 + (n - j) * 1 ≤ n * 1:=by rw [← Nat.add_mul];exact Nat.mul_le_mul_right _ (by omega)
   have s3 : Hid (∀ t,t < news.length → (w.drew.cell? ⟨g,o + i * 1 + t,none⟩).isSome = true ∧ w.drew.frozen? ⟨g,o + i * 1 + t,none⟩ = false):=by
    intro t ht
    rw [hlen] at ht
    refine ⟨?_,hB.drew.free _⟩
    rw [hB.drew.cell,List.getElem?_eq_getElem (by rw [Array.length_toList];omega)]
    rfl
   obtain ⟨W1,hW1⟩ : ∃ W1,W1 = w.drew.setCells g (o + i * 1) news:=⟨_,rfl⟩
   obtain ⟨cur1,b1,b2,b3⟩:=box_setCells news (o + i * 1) w.drew cur hB.drew (by omega)
   have g1:=grown_setCells g news (o + i * 1) w.drew
   rw [← hW1] at b1 g1
   obtain ⟨zs,hzs⟩ : ∃ zs,zs = (Builtin.zeroCells (Value.slice none 0 0).cells (n - (i + (n - j)))).toList:=⟨_,rfl⟩
   have hzl : zs.length = (j - i) * 1:=by
    rw [hzs,Array.length_toList,size_zeroCells,show (Value.slice none 0 0).cells.size = 1 from rfl,show n - (i + (n - j)) = j - i by omega]
   have e5 : o + (i + (n - j)) * 1 = o + i * 1 + (n - j) * 1:=by rw [Nat.add_mul,Nat.add_assoc]
   have hcz : i * 1 + (n - j) * 1 + (j - i) * 1 = n * 1:=by rw [← Nat.add_mul,← Nat.add_mul];congr 1;omega
   obtain ⟨cur2,d1,d2,d3⟩:=box_setCells zs (o + (i + (n - j)) * 1) W1 cur1 b1 (by omega)
   have g2:=grown_setCells g zs (o + (i + (n - j)) * 1) W1
   have HX : Hid (DelIs g o 1 n i j cur 29 w (W1.setCells g (o + (i + (n - j)) * 1) zs)):=by
    refine ⟨⟨g2.os.trans g1.os,g2.tape.trans g1.tape,g2.output.trans g1.output,Nat.le_trans g1.size g2.size,fun k hk hne=>(g2.block k (Nat.lt_of_lt_of_le hk g1.size) hne).trans (g1.block k hk hne)⟩,cur2,d1,by rw [d2,b2],fun q hq=>?_⟩
    have hq' : q < i * 1 + (n - j) * 1:=by rw [show n - (j - i) = i + (n - j) by omega,Nat.add_mul] at hq;exact hq
    rw [d3,if_neg (by omega),b3]
    by_cases h : q < i * 1
    · rw [if_neg (by omega),if_pos h]
    · rw [if_pos (by omega),if_neg h,show o + q - (o + i * 1) = q - i * 1 by omega,hget _ (by omega)]
      congr 1
      have : (j - i) * 1 = j * 1 - i * 1:=Nat.sub_mul _ _ _
      have : i * 1 ≤ j * 1:=Nat.mul_le_mul_right _ hij
      omega
   have hzv : ∀ w,(zeroValue 29).run Try.prog w = .ok (Value.slice none 0 0) w:=fun w=>by rfl
   have hcl : ∀ ty,(Builtin.clear_ #[30] ty #[.slice (some ⟨g,o + (i + (n - j)) * 1,none⟩) (n - (i + (n - j))) (c - (i + (n - j)))]).run Try.prog W1 = .ok (.tuple #[]) (W1.setCells g (o + (i + (n - j)) * 1) zs):=by
    intro ty
    rw [hzs]
    exact run_clear_any W1 _ _ ty _ Try.underlying30 hzv 1 rfl (by decide) g (o + (i + (n - j)) * 1) _ _ (by omega) (fun t ht=>by
     rw [b1.cell,List.getElem?_eq_getElem (by rw [Array.length_toList,b2];rw [show n - (i + (n - j)) = j - i by omega] at ht;omega)]
     rfl) (fun t ht=>b1.free _)
   obtain ⟨i0,hi0,hi1,hi2,hi3⟩:=minfo_bytes
   try simp only [Nat.mul_one] at hcl HX
   have hW : Hid (W1 = w.drew.setCells g (o + i * 1) news):=hW1
   have hic : i ≤ c:=by omega
   have hjc : j ≤ c:=by omega
   have hm9 : c ≤ 9223372036854775807:=hm
   clear hW1 hB hget hnews hlen hone b1 b2 b3 g1 g2 d1 d2 d3 hzl hzs e5 hcz hzv hjn hnc hij5
   go_enter Try.func88,Try.ntmps88
   go_wp2_with fail
   go_region_law (refine step_append_room rfl (.tmp 22) (.tmp 25) 30 rfl 29 i0 1 Try.underlying30 hi0 hi2 g o i c (by simp [Act.eval,Act.put]) A (n - j) (c - j) news (by simp [Act.eval,Act.put] <;> simpa using hA) s1.out hsrc.out s2.out (by omega) s3.out ?_;rw [← hW.out])
   go_wp2
   all_goals (go_ret;exact ⟨by rw [show n - (j - i) = i + (n - j) by omega];rfl,HX.out⟩)
set_option maxHeartbeats 4000000 in
set_option maxRecDepth 1000000 in
theorem delG_any (g o n c i j : Nat) (cur : Array Value) (w : World) (hB : BoxOf w g cur 64) (hn : n ≤ c) (hm : c ≤ maxLen) (hoc : o + c * 6 ≤ cur.size) (hij : i ≤ j) (hj : j ≤ n) (hone : ∀ q,q < n * 6 → ∃ u,cur.toList[o + q]? = some u ∧ u.oneCell' = true) :
 Calls Try.prog 58 #[.slice (some ⟨g,o,none⟩) n c,.int .i64 (i : Int),.int .i64 (j : Int)] w fun e w'=>e = .returned (.slice (some ⟨g,o,none⟩) (n - (j - i)) c) ∧ DelIs g o 6 n i j cur 64 w w':=by
 by_cases heq : i = j
 · subst heq
   have hi : i ≤ n:=hj
   have h0 : Calls Try.prog 58 #[.slice (some ⟨g,o,none⟩) n c,.int .i64 (i : Int),.int .i64 (i : Int)] w fun e w'=>e = .returned (.slice (some ⟨g,o,none⟩) n c) ∧ w' = w:=by
    clear hB hone
    have hc9 : i ≤ c:=by omega
    have hm9 : c ≤ 9223372036854775807:=hm
    go_enter Try.func58,Try.ntmps58
    go_wp2
    all_goals (go_ret;exact ⟨rfl,rfl⟩)
   refine h0.mono ?_
   rintro e w' ⟨rfl,rfl⟩
   exact ⟨by rw [Nat.sub_self,Nat.sub_zero],World.grownBy.refl _ _,cur,hB,rfl,fun q hq=>by
    have e1 : (if q < i * 6 then q else q + (i - i) * 6) = q:=by rw [Nat.sub_self];simp
    rw [e1]⟩
 · have hlt : i < j:=by omega
   obtain ⟨news,hnews⟩ : ∃ news,news = (cur.toList.drop (o + j * 6)).take ((n - j) * 6):=⟨_,rfl⟩
   have hjn : j * 6 + (n - j) * 6 = n * 6:=by rw [← Nat.add_mul];congr 1;omega
   have hnc : n * 6 ≤ c * 6:=Nat.mul_le_mul_right _ hn
   have hlen : news.length = (n - j) * 6:=by rw [hnews,List.length_take,List.length_drop,Array.length_toList];omega
   have hget : ∀ t,t < (n - j) * 6 → news[t]? = cur.toList[o + j * 6 + t]?:=by
    intro t ht
    rw [hnews,List.getElem?_take,if_pos ht,List.getElem?_drop]
   obtain ⟨A,hA,hsrc⟩ : ∃ A : Addr,(if c = j then some (⟨g,o,none⟩ : Addr) else some ⟨g,o + j * 6,none⟩) = some A ∧ Hid (∀ t u,news[t]? = some u → w.drew.cell? (A.add t) = some u):=by
    by_cases h : c = j
    · refine ⟨⟨g,o,none⟩,by simp [h],fun t u hu=>?_⟩
      have h0 : news.length = 0:=by rw [hlen,show n - j = 0 by omega,Nat.zero_mul]
      rw [List.length_eq_zero_iff.1 h0] at hu
      simp at hu
    · refine ⟨⟨g,o + j * 6,none⟩,by simp [h],fun t u hu=>?_⟩
      have ht : t < (n - j) * 6:=by
       have:=(List.getElem?_eq_some_iff.1 hu).1
       rwa [hlen] at this
      rw [hget t ht] at hu
      rw [Addr.add_lit]
      exact (hB.drew.cell _).trans hu
   have s1 : Hid (news.length = (n - j) * 6):=hlen
   have s2 : Hid (∀ u ∈ news,u.oneCell' = true):=by
    intro u hu
    obtain ⟨t,ht,rfl⟩:=List.getElem_of_mem hu
    have ht' : t < (n - j) * 6:=by rw [← hlen];exact ht
    have h1:=hget t ht'
    rw [List.getElem?_eq_getElem ht] at h1
    obtain ⟨u,hu1,hu2⟩:=hone (j * 6 + t) (by omega)
    rw [← Nat.add_assoc] at hu1
    rw [hu1] at h1
    rw [Option.some.inj h1]
    exact hu2
   have hij5 : i * 6 + (n - j) * 6 ≤ n * 6:=by rw [← Nat.add_mul];exact Nat.mul_le_mul_right _ (by omega)
   have s3 : Hid (∀ t,t < news.length → (w.drew.cell? ⟨g,o + i * 6 + t,none⟩).isSome = true ∧ w.drew.frozen? ⟨g,o + i * 6 + t,none⟩ = false):=by
    intro t ht
    rw [hlen] at ht
    refine ⟨?_,hB.drew.free _⟩
    rw [hB.drew.cell,List.getElem?_eq_getElem (by rw [Array.length_toList];omega)]
    rfl
   obtain ⟨W1,hW1⟩ : ∃ W1,W1 = w.drew.setCells g (o + i * 6) news:=⟨_,rfl⟩
   obtain ⟨cur1,b1,b2,b3⟩:=box_setCells news (o + i * 6) w.drew cur hB.drew (by omega)
   have g1:=grown_setCells g news (o + i * 6) w.drew
   rw [← hW1] at b1 g1
   obtain ⟨zs,hzs⟩ : ∃ zs,zs = (Builtin.zeroCells (Value.agg #[.int .i64 0,.int .u8 0,.int .i64 0,.int .i64 0,.slice none 0 0,.slice none 0 0]).cells (n - (i + (n - j)))).toList:=⟨_,rfl⟩
   have hzl : zs.length = (j - i) * 6:=by
    rw [hzs,Array.length_toList,size_zeroCells,show (Value.agg #[.int .i64 0,.int .u8 0,.int .i64 0,.int .i64 0,.slice none 0 0,.slice none 0 0]).cells.size = 6 from rfl,show n - (i + (n - j)) = j - i by omega]
   have e5 : o + (i + (n - j)) * 6 = o + i * 6 + (n - j) * 6:=by rw [Nat.add_mul,Nat.add_assoc]
   have hcz : i * 6 + (n - j) * 6 + (j - i) * 6 = n * 6:=by rw [← Nat.add_mul,← Nat.add_mul];congr 1;omega
   obtain ⟨cur2,d1,d2,d3⟩:=box_setCells zs (o + (i + (n - j)) * 6) W1 cur1 b1 (by omega)
   have g2:=grown_setCells g zs (o + (i + (n - j)) * 6) W1
   have HX : Hid (DelIs g o 6 n i j cur 64 w (W1.setCells g (o + (i + (n - j)) * 6) zs)):=by
    refine ⟨⟨g2.os.trans g1.os,g2.tape.trans g1.tape,g2.output.trans g1.output,Nat.le_trans g1.size g2.size,fun k hk hne=>(g2.block k (Nat.lt_of_lt_of_le hk g1.size) hne).trans (g1.block k hk hne)⟩,cur2,d1,by rw [d2,b2],fun q hq=>?_⟩
    have hq' : q < i * 6 + (n - j) * 6:=by rw [show n - (j - i) = i + (n - j) by omega,Nat.add_mul] at hq;exact hq
    rw [d3,if_neg (by omega),b3]
    by_cases h : q < i * 6
    · rw [if_neg (by omega),if_pos h]
    · rw [if_pos (by omega),if_neg h,show o + q - (o + i * 6) = q - i * 6 by omega,hget _ (by omega)]
      congr 1
      have : (j - i) * 6 = j * 6 - i * 6:=Nat.sub_mul _ _ _
      have : i * 6 ≤ j * 6:=Nat.mul_le_mul_right _ hij
      omega
   have hzv : ∀ w,(zeroValue 64).run Try.prog w = .ok (Value.agg #[.int .i64 0,.int .u8 0,.int .i64 0,.int .i64 0,.slice none 0 0,.slice none 0 0]) w:=fun w=>by rfl
   have hcl : ∀ ty,(Builtin.clear_ #[26] ty #[.slice (some ⟨g,o + (i + (n - j)) * 6,none⟩) (n - (i + (n - j))) (c - (i + (n - j)))]).run Try.prog W1 = .ok (.tuple #[]) (W1.setCells g (o + (i + (n - j)) * 6) zs):=by
    intro ty
    rw [hzs]
    exact run_clear_any W1 _ _ ty _ Try.underlying26 hzv 6 rfl (by decide) g (o + (i + (n - j)) * 6) _ _ (by omega) (fun t ht=>by
     rw [b1.cell,List.getElem?_eq_getElem (by rw [Array.length_toList,b2];rw [show n - (i + (n - j)) = j - i by omega] at ht;omega)]
     rfl) (fun t ht=>b1.free _)
   obtain ⟨i0,hi0,hi1,hi2,hi3⟩:=minfo_going
   try simp only [Nat.mul_one] at hcl HX
   have hW : Hid (W1 = w.drew.setCells g (o + i * 6) news):=hW1
   have hic : i ≤ c:=by omega
   have hjc : j ≤ c:=by omega
   have hm9 : c ≤ 9223372036854775807:=hm
   clear hW1 hB hget hnews hlen hone b1 b2 b3 g1 g2 d1 d2 d3 hzl hzs e5 hcz hzv hjn hnc hij5
   go_enter Try.func58,Try.ntmps58
   go_wp2_with fail
   go_region_law (refine step_append_room rfl (.tmp 22) (.tmp 25) 26 rfl 64 i0 6 Try.underlying26 hi0 hi2 g o i c (by simp [Act.eval,Act.put]) A (n - j) (c - j) news (by simp [Act.eval,Act.put] <;> simpa using hA) s1.out hsrc.out s2.out (by omega) s3.out ?_;rw [← hW.out])
   go_wp2
   all_goals (go_ret;exact ⟨by rw [show n - (j - i) = i + (n - j) by omega];rfl,HX.out⟩)
end Go.Proofs.Ytclbihcggjjgaaa
namespace Go.Proofs.Ytclbihcggjjgaaa
open Go Go.RowKit
set_option linter.unusedVariables false
theorem own_view {w : World} {base e size n : Nat} {v : Value} {xs : List Value} (h : w.ownsRow base e size v n xs) (hn : 0 < n) : ∃ g cap cur,v = .slice (some ⟨g,0,none⟩) n cap ∧ base ≤ g ∧ BoxOf w g cur e ∧ n ≤ cap ∧ cap ≤ maxLen ∧ cur.size = cap * size ∧ ∀ q,q < n * size → cur.toList[q]? = xs[q]?:=by
 rcases h.2 with ⟨_,h0⟩ | ⟨g,cap,cur,e,h1,h2,h3,h4,h5,h6⟩
 · omega
 · refine ⟨g,cap,cur,e,h1,h2,h3,h4,h5,fun q hq=>?_⟩
   rw [← h6,List.getElem?_take,if_pos hq]
theorem getElem?_one {l : List (List Value)} (hl : ∀ es ∈ l,es.length = 1) {i : Nat} (hi : i < l.length) {u : Value} (hu : l[i] = [u]) : l.flatten[i]? = some u:=by
 have h:=flatten_at l hl i 0 (by decide)
 rw [Nat.mul_one,Nat.add_zero,List.getElem?_eq_getElem hi,hu] at h
 exact h
set_option maxHeartbeats 1000000 in
theorem TwinIs.state {w : World} {lo : Nat} {ys : List (List (List UInt8))} {gs : List GoTy.T} {e : Ending} (h : TwinIs lo ys gs e w) (h0 : 0 < ys.length) (hz : ∀ i (hi : i < ys.length),0 < (ys[i]).length) :
 ∃ (R cR : Nat) (B : Option Addr) (d : Nat) (By : Nat → Prop),e = .returned (.agg #[.slice (some ⟨R,0,none⟩) ys.length cR,.slice B gs.length d]) ∧ (ys.length ≤ cR ∧ cR ≤ maxLen) ∧ (gs.length ≤ d ∧ d ≤ maxLen) ∧ MayS w By lo R ys ∧ GoS w By lo B d gs ∧ ∀ b,By b → NewB lo w b:=by
 obtain ⟨vy,vg,m,rfl,hlm,hmw,HY,HG⟩:=h
 obtain ⟨ess,Sf,y1,y2,y3,y4,y5,y6⟩:=HY
 obtain ⟨R,cR,cells,rfl,hR,hRB,hc1,hc2,hc3,hc4⟩:=own_view y6 h0
 have hes : ∀ es ∈ ess,es.length = 1:=by
  intro es he
  obtain ⟨i,hi,rfl⟩:=List.getElem_of_mem he
  exact (listE _).len (y2 i (by omega) hi)
 have hrow : ∀ i : Nat,∃ t : Nat × Nat,∀ hi : i < ys.length,∃ (cur : Array Value) (Tf : Nat → Nat → Prop),cells.toList[i]? = some (.slice (some ⟨t.1,0,none⟩) (ys[i]).length t.2) ∧ BoxOf w t.1 cur 29 ∧ (ys[i]).length ≤ t.2 ∧ t.2 ≤ maxLen ∧ t.2 ≤ cur.size ∧ Sf i t.1 ∧
  (∀ k b,Tf k b → Sf i b ∧ b ≠ t.1) ∧ ∀ k (hk : k < (ys[i]).length),∃ u,cur.toList[k]? = some u ∧ RdIn w (fun b=>Tf k b ∧ Live w b) (.sl .byte) (ys[i])[k] [u]:=by
  intro i
  by_cases hi : i < ys.length
  · obtain ⟨u,base,he,⟨es2,Tf,k1,k2,k3,k4,k5,k6⟩,hzz⟩:=y2 i hi (by omega)
    obtain ⟨g,cap,cur,rfl,q1,q2,q3,q4,q5,q6⟩:=own_view k6 (hz i hi)
    have hes2 : ∀ es ∈ es2,es.length = 1:=by
     intro es he
     obtain ⟨i,hi,rfl⟩:=List.getElem_of_mem he
     exact bytesE.len (k2 i (by omega) hi)
    refine ⟨(g,cap),fun _=>⟨cur,Tf,?_,q2,q3,q4,by rw [q5];simp,k5 g rfl,fun k b hb=>⟨(k3 k b hb).1,fun e=>(k3 k b hb).2 (by rw [e];rfl)⟩,fun k hk=>?_⟩⟩
    · have:=hc4 i (by omega)
      rw [this]
      exact getElem?_one hes (by omega) he
    · obtain ⟨u,e1,e2⟩:=k2 k hk (by omega)
      refine ⟨u,?_,e2⟩
      rw [q6 k (by omega)]
      exact getElem?_one hes2 (by omega) e1
  · exact ⟨(0,0),fun h=>absurd h hi⟩
 obtain ⟨rf,hrf⟩:=Classical.axiomOfChoice hrow
 clear hrow
 obtain ⟨gss,Gf,g1,g2,g3,g4,g5,g6⟩:=HG
 have hmk : ∀ j : Nat,∃ b : Nat,∀ hj : j < gs.length,∃ vd vm,(gss[j]'(by omega)) = [.int .i64 (nuOf gs[j]),.int .u8 ((kiOf gs[j]).toNat : Int),.int .i64 (atOf gs[j]),.int .i64 (manyOf gs[j]),vd,vm] ∧ (IsInt (nuOf gs[j]) ∧ IsInt (atOf gs[j]) ∧ IsInt (manyOf gs[j])) ∧ (∀ x ∈ mksOf gs[j],IsInt x) ∧ (mksOf gs[j]).length * 8 ≤ 140737488355328 ∧
  RdIn w (fun b'=>(Gf j b' ∧ Live w b') ∧ (mksOf gs[j] = [] ∨ b' ≠ b)) (.sl .byte) (datOf gs[j]) [vd] ∧ ∃ A c,vm = .slice A (mksOf gs[j]).length c ∧ (mksOf gs[j]).length ≤ c ∧ c ≤ maxLen ∧ (mksOf gs[j] = [] ∨ ∃ cur,A = some ⟨b,0,none⟩ ∧ BoxOf w b cur 3 ∧ Gf j b ∧ ∀ q (h : q < (mksOf gs[j]).length),cur.toList[q]? = some (.int .i64 (mksOf gs[j])[q])):=by
  intro j
  by_cases hj : j < gs.length
  · obtain ⟨nu,ki,at',many,bs,ms,vd,vm,e1,e2,e3,e4,e5,e6,e7⟩:=g2 j hj (by omega)
    have f1 : nuOf gs[j] = nu:=by rw [e1];rfl
    have f2 : kiOf gs[j] = ki:=by rw [e1];rfl
    have f3 : atOf gs[j] = at':=by rw [e1];rfl
    have f4 : manyOf gs[j] = many:=by rw [e1];rfl
    have f5 : datOf gs[j] = bs:=by rw [e1];rfl
    have f6 : mksOf gs[j] = ms:=by rw [e1];rfl
    rcases e7 with ⟨rfl,A,c,rfl,hc⟩ | ⟨b,cap,cur,rfl,e8,e9,e10,e11,e12,e13⟩
    · refine ⟨0,fun _=>⟨vd,.slice A 0 c,?_,?_,?_,?_,?_,A,c,?_,?_,?_,?_⟩⟩
      · rw [f1,f2,f3,f4];exact e2
      · rw [f1,f3,f4];exact e3
      · rw [f6];exact e4
      · rw [f6];exact e5
      · rw [f5];exact e6.mono fun b hb=>⟨hb.1,.inl f6⟩
      · rw [f6];rfl
      · rw [f6];exact Nat.zero_le _
      · exact hc
      · exact .inl f6
    · refine ⟨b,fun _=>⟨vd,.slice (some ⟨b,0,none⟩) ms.length cap,?_,?_,?_,?_,?_,some ⟨b,0,none⟩,cap,?_,?_,?_,?_⟩⟩
      · rw [f1,f2,f3,f4];exact e2
      · rw [f1,f3,f4];exact e3
      · rw [f6];exact e4
      · rw [f6];exact e5
      · rw [f5,f6]
        exact e6.mono fun b' hb=>⟨hb.1,hb.2.imp id fun h e=>h (by rw [e];rfl)⟩
      · rw [f6]
      · rw [f6];exact e10
      · exact e11
      · refine .inr ⟨cur,rfl,e9,e8,fun q hq=>?_⟩
        simp only [f6] at hq ⊢
        have h5 : (ms.map (fun x=>Value.int .i64 x))[q]? = some (.int .i64 ms[q]):=by simp [hq]
        rw [← e13,List.getElem?_take,if_pos hq] at h5
        exact h5
  · exact ⟨0,fun h=>absurd h hj⟩
 obtain ⟨bf,hbf⟩:=Classical.axiomOfChoice hmk
 clear hmk
 obtain ⟨B,d,hvg,hd⟩ : ∃ B d,vg = .slice B gs.length d ∧ gs.length ≤ d ∧ d ≤ maxLen:=by
  rcases g6.2 with ⟨rfl,k0⟩ | ⟨g,cap,cur,rfl,_,_,k1,k2,_⟩
  · exact ⟨none,0,by rw [k0],by omega,by unfold maxLen;omega⟩
  · exact ⟨_,_,rfl,k1,k2⟩
 subst hvg
 have hS : ∀ i b,Sf i b → lo ≤ b ∧ b < m ∧ b ≠ R:=fun i b hb=>⟨(y3 i b hb).1.1,(y3 i b hb).1.2,fun e=>(y3 i b hb).2 (by rw [e];rfl)⟩
 have hGs : ∀ j b,Gf j b → m ≤ b ∧ b < w.heap.size ∧ (Value.slice B gs.length d).ownBlock ≠ some b:=fun j b hb=>⟨(g3 j b hb).1.1,(g3 j b hb).1.2,(g3 j b hb).2⟩
 have hRm : R < m:=(y5 R rfl).2
 refine ⟨R,cR,B,d,fun b=>NewB lo w b ∧ b ≠ R ∧ (∀ i,i < ys.length → b ≠ (rf i).1) ∧ (Value.slice B gs.length d).ownBlock ≠ some b ∧ ∀ j (hj : j < gs.length),mksOf gs[j] ≠ [] → b ≠ bf j,rfl,⟨hc1,hc2⟩,hd,?_,?_,fun b hb=>hb.1⟩
 · refine ⟨cells,fun i=>(rf i).1,fun _=>0,fun i=>(rf i).2,hRB,⟨hR,fun h=>h.2.1 rfl⟩,fun i hi=>?_,fun i j hi hj e=>?_⟩
   · obtain ⟨cur,Tf,t1,t2,t3,t4,t5,t6,t7,t8⟩:=hrf i hi
     refine ⟨t1,cur,t2,t3,t4,by rw [Nat.zero_add];exact t5,⟨(hS i _ t6).1,fun h=>h.2.2.1 i hi rfl⟩,fun k hk=>?_⟩
     obtain ⟨u,u1,u2⟩:=t8 k hk
     refine ⟨u,by rw [Nat.zero_add];exact u1,u2.mono fun b hb=>?_⟩
     obtain ⟨hb1,hb2⟩:=t7 k b hb.1
     have hb3:=hS i b hb1
     refine ⟨⟨hb3.1,by omega,hb.2⟩,hb3.2.2,fun i' hi' e=>?_,fun e=>?_,fun j hj hne e=>?_⟩
     · obtain ⟨_,_,_,_,_,_,_,t6',_⟩:=hrf i' hi'
       rw [← e] at t6'
       have:=y4 i i' b hb1 t6'
       subst this
       exact hb2 e
     · have:=(g5 b e).1;omega
     · obtain ⟨vd,vm,_,_,_,_,_,A,c,_,_,_,hh⟩:=hbf j hj
       rcases hh with hh | ⟨cur',_,_,hh,_⟩
       · exact hne hh
       · have:=(hGs j _ hh).1;omega
   · obtain ⟨_,_,_,_,_,_,_,t6,_⟩:=hrf i hi
     obtain ⟨_,_,_,_,_,_,_,t6',_⟩:=hrf j hj
     have e' : (rf i).1 = (rf j).1:=e
     rw [← e'] at t6'
     exact y4 i j _ t6 t6'
 · rcases Nat.eq_zero_or_pos gs.length with hg0 | hg0
   · exact .inl (List.eq_nil_of_length_eq_zero hg0)
   · obtain ⟨G,cap,gcells,e1,e2,e3,e4,e5,e6,e7⟩:=own_view g6 hg0
     injection e1 with e1 _ e1'
     subst e1 e1'
     have hges : ∀ es ∈ gss,es.length = 6:=by
      intro es he
      obtain ⟨i,hi,rfl⟩:=List.getElem_of_mem he
      exact (goE _).len (g2 i (by omega) hi)
     refine .inr ⟨G,0,gcells,bf,rfl,e3,⟨by omega,fun h=>h.2.2.2.1 rfl,by rw [e6];omega⟩,fun j hj=>?_,fun i j hi hj hi1 hj1 e=>?_⟩
     · obtain ⟨vd,vm,k1,k2,k3,k4,k5,A,c,k6,k7,k8,k9⟩:=hbf j hj
       have hcell : ∀ q,q < 6 → gcells.toList[0 + j * 6 + q]? = (gss[j]'(by omega))[q]?:=by
        intro q hq
        have h1:=flatten_at gss hges j q hq
        rw [List.getElem?_eq_getElem (show j < gss.length by omega)] at h1
        rw [Nat.zero_add,e7 _ (by omega),h1]
        rfl
       refine ⟨vd,vm,⟨?_,?_,?_,?_,?_,?_⟩,k2,k5.mono fun b hb=>?_,k3,A,c,k6,k7,k8,k4,?_⟩
       · show gcells.toList[0 + j * 6 + 0]? = _
         rw [hcell 0 (by decide),k1];rfl
       · show gcells.toList[0 + j * 6 + 1]? = _
         rw [hcell 1 (by decide),k1];rfl
       · show gcells.toList[0 + j * 6 + 2]? = _
         rw [hcell 2 (by decide),k1];rfl
       · show gcells.toList[0 + j * 6 + 3]? = _
         rw [hcell 3 (by decide),k1];rfl
       · show gcells.toList[0 + j * 6 + 4]? = _
         rw [hcell 4 (by decide),k1];rfl
       · show gcells.toList[0 + j * 6 + 5]? = _
         rw [hcell 5 (by decide),k1];rfl
       · have hb3:=hGs j b hb.1.1
         refine ⟨⟨by omega,hb3.2.1,hb.1.2⟩,by omega,fun i' hi' e=>?_,hb3.2.2,fun j' hj' hne e=>?_⟩
         · obtain ⟨_,_,_,_,_,_,_,t6',_⟩:=hrf i' hi'
           have:=(hS i' _ t6').2.1;omega
         · obtain ⟨_,_,_,_,_,_,_,A',c',_,_,_,hh⟩:=hbf j' hj'
           rcases hh with hh | ⟨cur',_,_,hh,_⟩
           · exact hne hh
           · rw [← e] at hh
             have:=g4 j j' b hb.1.1 hh
             subst this
             rcases hb.2 with h | h
             · exact hne h
             · exact h e
       · rcases k9 with k9 | ⟨cur,m1,m2,m3,m4⟩
         · exact .inl k9
         · have hne : mksOf gs[j] = [] ∨ mksOf gs[j] ≠ []:=Classical.em _
           rcases hne with hne | hne
           · exact .inl hne
           · exact .inr ⟨0,cur,m1,m2,⟨by have:=(hGs j _ m3).1;omega,fun h=>h.2.2.2.2 j hj hne rfl⟩,fun q hq=>by rw [Nat.zero_add];exact m4 q hq⟩
     · obtain ⟨_,_,_,_,_,_,_,A,c,_,_,_,hh⟩:=hbf i hi
       obtain ⟨_,_,_,_,_,_,_,A',c',_,_,_,hh'⟩:=hbf j hj
       rcases hh with hh | ⟨cur,_,_,hh,_⟩
       · exact absurd hh hi1
       · rcases hh' with hh' | ⟨cur',_,_,hh',_⟩
         · exact absurd hh' hj1
         · rw [← e] at hh'
           exact g4 i j _ hh hh'
def setMks (g : GoTy.T) (ms : List Int) : GoTy.T:=(nuOf g,(kiOf g,atOf g,manyOf g,datOf g,()),ms,())
theorem GoS.mark {w : World} {By : Nat → Prop} {lo : Nat} {B : Option Addr} {d : Nat} {gs : List GoTy.T} (h : GoS w By lo B d gs) {j : Nat} (hj : j < gs.length) :
 ∃ (G o : Nat) (cells : Array Value) (Ab : Option Addr) (cb : Nat) (Am : Option Addr) (cm : Nat),B = some ⟨G,o,none⟩ ∧ BoxOf w G cells 64 ∧
  (w.cell? ⟨G,o + j * 6,none⟩ = some (.int .i64 (nuOf gs[j])) ∧ w.cell? ⟨G,o + j * 6 + 1,none⟩ = some (.int .u8 ((kiOf gs[j]).toNat : Int)) ∧ w.cell? ⟨G,o + j * 6 + 2,none⟩ = some (.int .i64 (atOf gs[j])) ∧ w.cell? ⟨G,o + j * 6 + 3,none⟩ = some (.int .i64 (manyOf gs[j])) ∧ w.cell? ⟨G,o + j * 6 + 4,none⟩ = some (.slice Ab (datOf gs[j]).length cb) ∧ w.cell? ⟨G,o + j * 6 + 5,none⟩ = some (.slice Am (mksOf gs[j]).length cm)) ∧
  RdIn w By (.sl .byte) (datOf gs[j]) [.slice Ab (datOf gs[j]).length cb] ∧ (mksOf gs[j]).length ≤ maxLen ∧ (∀ x ∈ mksOf gs[j],IsInt x) ∧ (IsInt (nuOf gs[j]) ∧ IsInt (atOf gs[j]) ∧ IsInt (manyOf gs[j])) ∧
  (0 < (mksOf gs[j]).length → ∃ (b oo : Nat) (cur : Array Value),Am = some ⟨b,oo,none⟩ ∧ BoxOf w b cur 3 ∧ (lo ≤ b ∧ ¬ By b) ∧ (∀ q (hq : q < (mksOf gs[j]).length),w.cell? ⟨b,oo + q,none⟩ = some (.int .i64 (mksOf gs[j])[q])) ∧
     ∀ (w' : World) (k : Nat) (x : Int),Below w.heap.size w w' → (∀ b,By b → b < w.heap.size) → k < (mksOf gs[j]).length → IsInt x → GoS (w'.setCell ⟨b,oo + k,none⟩ (.int .i64 x)) By lo B d (gs.set j (setMks gs[j] ((mksOf gs[j]).set k x)))):=by
 rcases h with h | ⟨G,o,cells,bf,h1,h2,h3,h4,h5⟩
 · rw [h] at hj;simp at hj
 · have h4j:=h4 j hj
   obtain ⟨vd,vm,⟨k0,k1,k2,k3,k4,k5⟩,k6,k7,m0,Am,cm,rfl,m2,m3,m4,m5⟩:=h4j
   obtain ⟨Ab,cb,rfl,_⟩:=k7.bytes
   refine ⟨G,o,cells,Ab,cb,Am,cm,h1,h2,⟨by rw [h2.cell];exact k0,by rw [h2.cell];exact k1,by rw [h2.cell];exact k2,by rw [h2.cell];exact k3,by rw [h2.cell];exact k4,by rw [h2.cell];exact k5⟩,k7,by omega,m0,k6,fun hp=>?_⟩
   have hne : mksOf gs[j] ≠ []:=fun e=>by rw [e] at hp;simp at hp
   rcases m5 with m5 | ⟨oo,cur,m6,m7,m8,m9⟩
   · exact absurd m5 hne
   · refine ⟨bf j,oo,cur,m6,m7,m8,fun q hq=>by rw [m7.cell];exact m9 q hq,fun w' k x hbw hBy hk hx=>.inr ⟨G,o,cells,bf,h1,?_,h3,fun i hi=>?_,fun i i' hi hi' e1 e2 e=>?_⟩⟩
     · exact mbox_else (h2.next hbw) (box_diff h2 m7 (by decide)) _ _
     · rw [List.length_set] at hi
       have hB : ∀ b,By b → (w'.setCell ⟨bf j,oo + k,none⟩ (.int .i64 x)).heap[b]? = w.heap[b]?:=fun b hb=>(Below.heap_setCell _ _ _ _ (fun e=>m8.2 (by have e' : b = bf j:=e;rw [← e'];exact hb))).trans (hbw.block b (hBy b hb))
       by_cases e : i = j
       · subst e
         rw [List.getElem_set_self]
         refine ⟨_,_,⟨k0,k1,k2,k3,k4,k5⟩,k6,k7.frame hB,?_⟩
         have hml : ((mksOf gs[i]).set k x).length = (mksOf gs[i]).length:=List.length_set
         refine ⟨fun y hy=>?_,Am,cm,by show Value.slice Am (mksOf gs[i]).length cm = .slice Am ((mksOf gs[i]).set k x).length cm;rw [hml],by show ((mksOf gs[i]).set k x).length ≤ cm;rw [hml];exact m2,m3,by show ((mksOf gs[i]).set k x).length * 8 ≤ _;rw [hml];exact m4,.inr ⟨oo,_,m6,mbox_self (m7.next hbw) (oo + k) (.int .i64 x),m8,fun q hq=>?_⟩⟩
         · have hy' : y ∈ (mksOf gs[i]).set k x:=hy
           rcases List.mem_or_eq_of_mem_set hy' with h | h
           · exact m0 y h
           · rw [h];exact hx
         · have hq' : q < (mksOf gs[i]).length:=by rw [← hml];exact hq
           show (cur.setIfInBounds (oo + k) (.int .i64 x)).toList[oo + q]? = some (.int .i64 (((mksOf gs[i]).set k x)[q]'(by rw [hml];exact hq')))
           have hlq:=(List.getElem?_eq_some_iff.1 (m9 k hk)).1
           rw [Array.toList_setIfInBounds]
           by_cases hqk : q = k
           · subst hqk
             rw [List.getElem?_set_self hlq,List.getElem_set_self]
           · rw [List.getElem?_set_ne (by omega),List.getElem_set_ne (fun e=>hqk e.symm)]
             exact m9 q hq'
       · rw [List.getElem_set_ne (fun h=>e h.symm)]
         refine (h4 i hi).frame (fun _ _=>rfl) (fun hne'=>(Below.heap_setCell _ _ _ _ (fun e'=>e ?_)).trans (hbw.block _ ?_)) hB (fun _ h=>h) (fun _ _ h=>h)
         · exact h5 i j hi hj hne' hne e'
         · obtain ⟨_,_,_,_,_,_,_,_,_,_,_,_,hh⟩:=h4 i hi
           rcases hh with hh | ⟨_,_,_,hh,_⟩
           · exact absurd hh hne'
           · exact hh.lt
     · rw [List.length_set] at hi hi'
       have hz : ∀ i (hi : i < (gs.set j (setMks gs[j] ((mksOf gs[j]).set k x))).length),mksOf ((gs.set j (setMks gs[j] ((mksOf gs[j]).set k x)))[i]) ≠ [] → ∀ hi2 : i < gs.length,mksOf gs[i] ≠ []:=by
        intro i hi hh hi2
        by_cases e : i = j
        · subst e;exact hne
        · rwa [List.getElem_set_ne (fun h=>e h.symm)] at hh
       exact h5 i i' hi hi' (hz i _ e1 hi) (hz i' _ e2 hi') e
end Go.Proofs.Ytclbihcggjjgaaa
namespace Go.Proofs.Ytclbihcggjjgaaa
open Go Go.RowKit
set_option linter.unusedVariables false
abbrev Ys:=List (List (List UInt8))
def dropMk (b many : Nat) (g : GoTy.T) : GoTy.T:=if mksOf g = [] then g else setMks g ((mksOf g).set b (max 0 ((mksOf g).getD b 0 - (many : Int))))
def dropY (b many : Nat) (ys : Ys) : Ys:=ys.set b ((ys.getD b []).drop many)
def dropG (b many : Nat) (gs : List GoTy.T) : List GoTy.T:=gs.map (dropMk b many)
def dropS (b many : Nat) (s : Ys × List GoTy.T) : Ys × List GoTy.T:=(dropY b many s.1,dropG b many s.2)
def marksS (ms : List Int) : Nat → Ys × List GoTy.T → Ys × List GoTy.T
 | 0,s=>s
 | j + 1,s=>dropS j (ms.getD j 0).toNat (marksS ms j s)
def pushY (b : Nat) (v : List UInt8) (ys : Ys) : Ys:=ys.set b (ys.getD b [] ++ [v])
def putS (k : Int) (b : Nat) (v : List UInt8) (s : Ys × List GoTy.T) : Ys × List GoTy.T:=
 if k = 3 then dropS b ((s.1.getD b [] ++ [v]).length - 1) (pushY b v s.1,s.2) else (pushY b v s.1,s.2)
def stepS (k : Int) (bs : List UInt8) (a i : Nat) (t : (Ys × List GoTy.T) × List UInt8) : Option ((Ys × List GoTy.T) × List UInt8):=
 if kWrites k = true then (if 512 < ((putS k (a + i) (blk k bs i) t.1).1.getD (a + i) []).length then none else some (putS k (a + i) (blk k bs i) t.1,t.2))
 else some (t.1,t.2 ++ (t.1.1.getD (a + i) []).getLastD [])
def endS (k : Int) (bs : List UInt8) (a : Nat) : Nat → Ys × List GoTy.T → Option ((Ys × List GoTy.T) × List UInt8)
 | 0,s=>some (s,[])
 | i + 1,s=>(endS k bs a i s).bind (stepS k bs a i)
theorem setMks_mks (g : GoTy.T) (ms : List Int) : mksOf (setMks g ms) = ms:=rfl
theorem setMks_self (g : GoTy.T) : setMks g (mksOf g) = g:=by
 obtain ⟨nu,⟨ki,a,y,bs,u⟩,ms,v⟩:=g
 rfl
theorem dropMk_nu (b many : Nat) (g : GoTy.T) : nuOf (dropMk b many g) = nuOf g:=by unfold dropMk;split <;> rfl
theorem dropMk_ki (b many : Nat) (g : GoTy.T) : kiOf (dropMk b many g) = kiOf g:=by unfold dropMk;split <;> rfl
theorem dropMk_at (b many : Nat) (g : GoTy.T) : atOf (dropMk b many g) = atOf g:=by unfold dropMk;split <;> rfl
theorem dropMk_many (b many : Nat) (g : GoTy.T) : manyOf (dropMk b many g) = manyOf g:=by unfold dropMk;split <;> rfl
theorem dropMk_dat (b many : Nat) (g : GoTy.T) : datOf (dropMk b many g) = datOf g:=by unfold dropMk;split <;> rfl
theorem dropMk_len (b many : Nat) (g : GoTy.T) : (mksOf (dropMk b many g)).length = (mksOf g).length:=by
 unfold dropMk
 split
 · rfl
 · rw [setMks_mks,List.length_set]
theorem dropMk_get (b many : Nat) (g : GoTy.T) (i : Nat) (h : i < (mksOf g).length) (h' : i < (mksOf (dropMk b many g)).length) : (mksOf (dropMk b many g))[i] = if i = b then max 0 ((mksOf g)[i] - (many : Int)) else (mksOf g)[i]:=by
 have hne : mksOf g ≠ []:=fun e=>by rw [e] at h;simp at h
 have e : mksOf (dropMk b many g) = (mksOf g).set b (max 0 ((mksOf g).getD b 0 - (many : Int))):=by
  unfold dropMk
  rw [if_neg hne,setMks_mks]
 have e2 : (mksOf (dropMk b many g))[i]? = ((mksOf g).set b (max 0 ((mksOf g).getD b 0 - (many : Int))))[i]?:=by rw [e]
 rw [List.getElem?_eq_getElem h'] at e2
 have e3:=Option.some.inj (e2.trans (List.getElem?_eq_getElem (by rw [List.length_set];exact h)))
 rw [e3,List.getElem_set]
 by_cases hb : i = b
 · subst hb
   rw [if_pos rfl,if_pos rfl]
   rw [List.getD_eq_getElem?_getD,List.getElem?_eq_getElem h]
   rfl
 · rw [if_neg (fun e=>hb e.symm),if_neg hb]
theorem getD_lt {ys : Ys} {b : Nat} (h : b < ys.length) : ys.getD b [] = ys[b]:=by
 rw [List.getD_eq_getElem?_getD,List.getElem?_eq_getElem h];rfl
theorem PlainOk.turn {x : Cfg} {ys : Ys} {gs : List GoTy.T} (h : PlainOk x ys gs) {b : Nat} (hb : b < ys.length) (many : Nat) (zs : List (List UInt8)) (hz : RowOk zs) (hm : ∀ m : Int,0 ≤ m → m < ((ys[b]).length : Int) → max 0 (m - (many : Int)) < (zs.length : Int)) : PlainOk x (ys.set b zs) (dropG b many gs) where
 cfg:=h.cfg
 len:=by rw [List.length_set];exact h.len
 few:=by unfold dropG;rw [List.length_map];exact h.few
 vals:=fun i hi=>by
  rw [List.length_set] at hi
  by_cases e : i = b
  · subst e
    rw [List.getElem_set_self]
    exact hz
  · rw [List.getElem_set_ne (fun h=>e h.symm)]
    exact h.vals i hi
 goes:=fun i hi=>by
  unfold dropG at *
  rw [List.length_map] at hi
  have e : (gs.map (dropMk b many))[i] = dropMk b many gs[i]:=List.getElem_map _
  obtain ⟨⟨h1,h2,h3⟩,h4⟩:=h.goes i hi
  refine ⟨⟨?_,?_,?_⟩,?_⟩
  · rw [e,dropMk_nu];exact h1
  · rw [e,dropMk_ki,dropMk_at,dropMk_many,dropMk_dat];exact h2
  · rw [e,dropMk_ki]
    unfold MarksOk at h3 ⊢
    split at h3
    · rename_i hk
      rw [if_pos hk,dropMk_len,List.length_set]
      refine ⟨h3.1,fun q hq hq'=>?_⟩
      have hq0 : q < (mksOf gs[i]).length:=by rw [dropMk_len] at hq;exact hq
      have hq1 : q < ys.length:=by rw [List.length_set] at hq';exact hq'
      have h5:=h3.2 q hq0 hq1
      rw [dropMk_get b many _ q hq0 hq]
      by_cases e2 : q = b
      · subst e2
        rw [if_pos rfl,List.getElem_set_self]
        exact ⟨Int.le_max_left _ _,hm _ h5.1 h5.2⟩
      · rw [if_neg e2,List.getElem_set_ne (fun h=>e2 h.symm)]
        exact h5
    · rename_i hk
      rw [if_neg hk,dropMk_len]
      exact h3
  · intro h5 h6
    have h7 : i - 1 < gs.length:=by rw [List.length_map] at h5;exact h5
    rw [e,dropMk_nu]
    have e' : (gs.map (dropMk b many))[i - 1] = dropMk b many gs[i - 1]:=List.getElem_map _
    rw [e',dropMk_nu]
    exact h4 h7 h6
theorem PlainOk.row {x : Cfg} {ys : Ys} {gs : List GoTy.T} (h : PlainOk x ys gs) {b : Nat} (hb : b < ys.length) : 1 ≤ (ys[b]).length ∧ (ys[b]).length ≤ 512 ∧ ∀ k (hk : k < (ys[b]).length),((ys[b])[k]).length = 128:=by
 obtain ⟨h1,h2,h3⟩:=h.vals b hb
 exact ⟨h1,h2,fun k hk=>h3 k hk⟩
theorem PlainOk.drop {x : Cfg} {ys : Ys} {gs : List GoTy.T} (h : PlainOk x ys gs) {b many : Nat} (hb : b < ys.length) (hm : many < (ys[b]).length) : PlainOk x (dropY b many ys) (dropG b many gs):=by
 obtain ⟨h1,h2,h3⟩:=h.row hb
 unfold dropY
 rw [getD_lt hb]
 refine h.turn hb many _ ⟨by rw [List.length_drop];omega,by rw [List.length_drop];omega,fun k hk=>?_⟩ (fun m m0 m1=>?_)
 · rw [List.getElem_drop]
   exact h3 _ _
 · rw [List.length_drop]
   omega
theorem dropMk_none {b : Nat} {g : GoTy.T} (h : ∀ q (hq : q < (mksOf g).length),0 ≤ (mksOf g)[q]) : dropMk b 0 g = g:=by
 by_cases hn : mksOf g = []
 · unfold dropMk
   rw [if_pos hn]
 · unfold dropMk
   rw [if_neg hn]
   have e : (mksOf g).set b (max 0 ((mksOf g).getD b 0 - ((0 : Nat) : Int))) = mksOf g:=by
    apply List.ext_getElem
    · rw [List.length_set]
    · intro i h1 h2
      rw [List.getElem_set]
      by_cases hb : b = i
      · subst hb
        have:=h b h2
        rw [if_pos rfl,List.getD_eq_getElem?_getD,List.getElem?_eq_getElem h2]
        show max 0 ((mksOf g)[b] - ((0 : Nat) : Int)) = _
        omega
      · rw [if_neg hb]
   rw [e,setMks_self]
theorem PlainOk.marks {x : Cfg} {ys : Ys} {gs : List GoTy.T} (h : PlainOk x ys gs) {j : Nat} (hj : j < gs.length) : (mksOf gs[j] = [] ∨ (mksOf gs[j]).length = ys.length) ∧ ∀ q (hq : q < (mksOf gs[j]).length),∃ hq' : q < ys.length,0 ≤ (mksOf gs[j])[q] ∧ (mksOf gs[j])[q] < ((ys[q]).length : Int):=by
 obtain ⟨⟨_,_,h3⟩,_⟩:=h.goes j hj
 unfold MarksOk at h3
 split at h3
 · exact ⟨.inr h3.1,fun q hq=>⟨by omega,h3.2 q hq (by omega)⟩⟩
 · exact ⟨.inl (List.eq_nil_of_length_eq_zero h3),fun q hq=>by omega⟩
theorem PlainOk.none {x : Cfg} {ys : Ys} {gs : List GoTy.T} (h : PlainOk x ys gs) (b : Nat) : dropG b 0 gs = gs:=by
 unfold dropG
 apply List.ext_getElem
 · rw [List.length_map]
 · intro i h1 h2
   rw [List.getElem_map]
   refine dropMk_none fun q hq=>?_
   obtain ⟨_,h3,_⟩:=(h.marks h2).2 q hq
   exact h3
theorem PlainOk.push {x : Cfg} {ys : Ys} {gs : List GoTy.T} (h : PlainOk x ys gs) {b : Nat} (hb : b < ys.length) {v : List UInt8} (hv : v.length = 128) (hl : (ys[b]).length < 512) : PlainOk x (pushY b v ys) gs:=by
 obtain ⟨h1,h2,h3⟩:=h.row hb
 unfold pushY
 rw [getD_lt hb]
 have:=h.turn hb 0 (ys[b] ++ [v]) ⟨by rw [List.length_append];omega,by rw [List.length_append,List.length_singleton];omega,fun k hk=>?_⟩ (fun m m0 m1=>by rw [List.length_append,List.length_singleton];omega)
 · rwa [h.none] at this
 · rw [List.getElem_append]
   split
   · exact h3 _ _
   · simpa using hv
theorem put_fua {b : Nat} {v : List UInt8} {s : Ys × List GoTy.T} (hb : b < s.1.length) : putS 3 b v s = (s.1.set b [v],dropG b (s.1[b]).length s.2):=by
 unfold putS dropS dropY pushY
 rw [if_pos rfl,getD_lt hb]
 have e : (s.1[b] ++ [v]).length - 1 = (s.1[b]).length:=by rw [List.length_append,List.length_singleton];omega
 have e2 : (s.1.set b (s.1[b] ++ [v])).getD b [] = s.1[b] ++ [v]:=by
  rw [List.getD_eq_getElem?_getD,List.getElem?_set_self hb];rfl
 simp only [e,e2]
 rw [List.set_set,List.drop_left]
theorem PlainOk.put {x : Cfg} {ys : Ys} {gs : List GoTy.T} (h : PlainOk x ys gs) {k : Int} {b : Nat} (hb : b < ys.length) {v : List UInt8} (hv : v.length = 128) (hl : ¬ 512 < ((putS k b v (ys,gs)).1.getD b []).length) : PlainOk x (putS k b v (ys,gs)).1 (putS k b v (ys,gs)).2:=by
 by_cases hk : k = 3
 · subst hk
   rw [put_fua hb]
   exact h.turn hb (ys[b]).length [v] ⟨by simp,by simp,fun k hk=>by
    have : k = 0:=by simpa using hk
    subst this
    exact hv⟩ (fun m m0 m1=>by show max 0 (m - ((ys[b]).length : Int)) < 1;omega)
 · have e : putS k b v (ys,gs) = (pushY b v ys,gs):=by unfold putS;rw [if_neg hk]
   rw [e] at hl ⊢
   refine h.push hb hv ?_
   have e2 : (pushY b v ys).getD b [] = ys[b] ++ [v]:=by
    unfold pushY
    rw [List.getD_eq_getElem?_getD,List.getElem?_set_self hb,getD_lt hb];rfl
   rw [e2,List.length_append,List.length_singleton] at hl
   omega
theorem PlainOk.less {x : Cfg} {ys : Ys} {gs : List GoTy.T} (h : PlainOk x ys gs) : ∀ (j i : Nat) (hj : j < gs.length) (hi : i < j),nuOf (gs[i]'(by omega)) < nuOf gs[j]
 | 0,i,hj,hi=>by omega
 | j + 1,i,hj,hi=>by
   have h1:=(h.goes (j + 1) hj).2 (by omega) (by omega)
   simp only [Nat.add_sub_cancel] at h1
   by_cases e : i = j
   · subst e;exact h1
   · exact Int.lt_trans (h.less j i (by omega) (by omega)) h1
theorem PlainOk.one {x : Cfg} {ys : Ys} {gs : List GoTy.T} (h : PlainOk x ys gs) {i j : Nat} (hi : i < gs.length) (hj : j < gs.length) (e : nuOf gs[i] = nuOf gs[j]) : i = j:=by
 rcases Nat.lt_trichotomy i j with h1 | h1 | h1
 · have:=h.less j i hj h1;omega
 · exact h1
 · have:=h.less i j hi h1;omega
theorem PlainOk.erase {x : Cfg} {ys : Ys} {gs : List GoTy.T} (h : PlainOk x ys gs) {j : Nat} (hj : j < gs.length) : PlainOk x ys (gs.eraseIdx j) where
 cfg:=h.cfg
 len:=h.len
 few:=by rw [List.length_eraseIdx_of_lt hj];have:=h.few;omega
 vals:=h.vals
 goes:=fun i hi=>by
  rw [List.length_eraseIdx_of_lt hj] at hi
  have hget : ∀ q (hq : q < (gs.eraseIdx j).length),(gs.eraseIdx j)[q] = gs[if q < j then q else q + 1]'(by rw [List.length_eraseIdx_of_lt hj] at hq;split <;> omega):=by
   intro q hq
   rw [List.getElem_eraseIdx]
   split <;> simp [*]
  rw [hget]
  refine ⟨(h.goes _ _).1,fun h5 h6=>?_⟩
  rw [hget]
  exact h.less _ _ _ (by split <;> split <;> omega)
theorem dropS_len (b many : Nat) (s : Ys × List GoTy.T) : (dropS b many s).1.length = s.1.length ∧ (dropS b many s).2.length = s.2.length:=by
 unfold dropS dropY dropG
 exact ⟨List.length_set,List.length_map _⟩
theorem marksS_ok {x : Cfg} {ms : List Int} {s : Ys × List GoTy.T} (h : PlainOk x s.1 s.2) (hl : ms.length ≤ s.1.length) (hm : ∀ q (hq : q < ms.length),∃ hq' : q < s.1.length,0 ≤ ms[q] ∧ ms[q] < ((s.1[q]).length : Int)) :
 ∀ j,j ≤ ms.length → PlainOk x (marksS ms j s).1 (marksS ms j s).2 ∧ (marksS ms j s).1.length = s.1.length ∧ (marksS ms j s).2.length = s.2.length ∧ (∀ q,j ≤ q → (marksS ms j s).1.getD q [] = s.1.getD q []) ∧ ∀ q,q < j → (marksS ms j s).1.getD q [] = (s.1.getD q []).drop (ms.getD q 0).toNat
 | 0,_=>⟨h,rfl,rfl,fun _ _=>rfl,fun q hq=>by omega⟩
 | j + 1,hj=>by
   obtain ⟨h1,h2,h3,h4,h5⟩:=marksS_ok h hl hm j (by omega)
   obtain ⟨hq',m0,m1⟩:=hm j (by omega)
   have hjs : j < (marksS ms j s).1.length:=by rw [h2];exact hq'
   have e0 : ms.getD j 0 = ms[j]:=by rw [List.getD_eq_getElem?_getD,List.getElem?_eq_getElem (by omega)];rfl
   have e1 : (marksS ms j s).1[j] = s.1[j]:=by rw [← getD_lt hjs,h4 j (Nat.le_refl _),getD_lt hq']
   show PlainOk x (dropS j (ms.getD j 0).toNat (marksS ms j s)).1 (dropS j (ms.getD j 0).toNat (marksS ms j s)).2 ∧ (dropS j (ms.getD j 0).toNat (marksS ms j s)).1.length = _ ∧ (dropS j (ms.getD j 0).toNat (marksS ms j s)).2.length = _ ∧ (∀ q,j + 1 ≤ q → (dropS j (ms.getD j 0).toNat (marksS ms j s)).1.getD q [] = _) ∧ ∀ q,q < j + 1 → (dropS j (ms.getD j 0).toNat (marksS ms j s)).1.getD q [] = _
   refine ⟨h1.drop hjs (by rw [e1,e0];omega),by rw [(dropS_len _ _ _).1];exact h2,by rw [(dropS_len _ _ _).2];exact h3,fun q hq=>?_,fun q hq=>?_⟩
   · rw [← h4 q (by omega)]
     unfold dropS dropY
     simp only [List.getD_eq_getElem?_getD]
     rw [List.getElem?_set_ne (by omega)]
   · by_cases e : q = j
     · subst e
       unfold dropS dropY
       simp only
       rw [List.getD_eq_getElem?_getD,List.getElem?_set_self hjs,h4 q (Nat.le_refl _)]
       rfl
     · rw [← h5 q (by omega)]
       unfold dropS dropY
       simp only [List.getD_eq_getElem?_getD]
       rw [List.getElem?_set_ne (fun h=>e h.symm)]
theorem putS_len (k : Int) (b : Nat) (v : List UInt8) (s : Ys × List GoTy.T) : (putS k b v s).1.length = s.1.length ∧ (putS k b v s).2.length = s.2.length:=by
 unfold putS
 split
 · rw [(dropS_len _ _ _).1,(dropS_len _ _ _).2]
   exact ⟨List.length_set,rfl⟩
 · exact ⟨List.length_set,rfl⟩
theorem blk_len {k : Int} {bs : List UInt8} {i : Nat} (h : kBytes k = true → i * 128 + 128 ≤ bs.length) : (blk k bs i).length = 128:=by
 unfold blk
 split
 · rename_i hk
   exact part128_len (h hk)
 · exact zeros_len
theorem endS_ok {x : Cfg} {k : Int} {bs : List UInt8} {a : Nat} {s : Ys × List GoTy.T} (h : PlainOk x s.1 s.2) {y : Nat} (hy : a + y ≤ s.1.length) (hb : kBytes k = true → y * 128 ≤ bs.length) :
 ∀ i,i ≤ y → ∀ t,endS k bs a i s = some t → PlainOk x t.1.1 t.1.2 ∧ t.1.1.length = s.1.length ∧ t.1.2.length = s.2.length
 | 0,_,t,ht=>by
   obtain rfl:=Option.some.inj ht
   exact ⟨h,rfl,rfl⟩
 | i + 1,hi,t,ht=>by
   obtain ⟨t',h1,h2⟩:=Option.bind_eq_some_iff.1 (show (endS k bs a i s).bind (stepS k bs a i) = some t from ht)
   obtain ⟨k1,k2,k3⟩:=endS_ok h hy hb i (by omega) t' h1
   unfold stepS at h2
   split at h2
   · split at h2
     · cases h2
     · rename_i hl
       obtain rfl:=Option.some.inj h2
       have hv:=blk_len (k:=k) (bs:=bs) (i:=i) (fun hk=>by have:=hb hk;omega)
       exact ⟨k1.put (by omega) hv hl,by rw [(putS_len _ _ _ _).1];exact k2,by rw [(putS_len _ _ _ _).2];exact k3⟩
   · obtain rfl:=Option.some.inj h2
     exact ⟨k1,k2,k3⟩
def endAll (ys : Ys) (gs : List GoTy.T) (j : Nat) : Option ((Ys × List GoTy.T) × List UInt8):=
 match gs[j]? with
 | none=>none
 | some g=>endS ((kiOf g).toNat : Int) (datOf g) (atOf g).toNat (manyOf g).toNat (marksS (mksOf g) (mksOf g).length (ys,gs.eraseIdx j))
def EndRel (x : Cfg) (ys : Ys) (gs : List GoTy.T) (number v : Int) (zs : Ys) (hs : List GoTy.T) (rn : Int) (dat : List UInt8) (many : Int) : Prop:=
 (¬ PlainOk x ys gs ∧ v = 8 ∧ zs = [] ∧ hs = [] ∧ rn = 0 ∧ dat = [] ∧ many = 0) ∨
 (PlainOk x ys gs ∧ (∀ j (h : j < gs.length),¬ nuOf gs[j] = number) ∧ v = 6 ∧ zs = [] ∧ hs = [] ∧ rn = 0 ∧ dat = [] ∧ many = 0) ∨
 (PlainOk x ys gs ∧ (∃ j,∃ h : j < gs.length,nuOf gs[j] = number ∧ endAll ys gs j = none) ∧ v = 9 ∧ zs = [] ∧ hs = [] ∧ rn = 0 ∧ dat = [] ∧ many = 0) ∨
 (PlainOk x ys gs ∧ (∃ j,∃ h : j < gs.length,nuOf gs[j] = number ∧ endAll ys gs j = some ((zs,hs),dat) ∧ many = manyOf gs[j]) ∧ v = 0 ∧ rn = number)
theorem EndRel.one {x : Cfg} {ys : Ys} {gs : List GoTy.T} {number v v' : Int} {zs zs' : Ys} {hs hs' : List GoTy.T} {rn rn' : Int} {dat dat' : List UInt8} {many many' : Int} (h : EndRel x ys gs number v zs hs rn dat many) (h' : EndRel x ys gs number v' zs' hs' rn' dat' many') : v = v' ∧ zs = zs' ∧ hs = hs' ∧ rn = rn' ∧ dat = dat' ∧ many = many':=by
 rcases h with ⟨h1,rfl,rfl,rfl,rfl,rfl,rfl⟩ | ⟨h1,h2,rfl,rfl,rfl,rfl,rfl,rfl⟩ | ⟨h1,⟨j,hj,h2,h3⟩,rfl,rfl,rfl,rfl,rfl,rfl⟩ | ⟨h1,⟨j,hj,h2,h3,rfl⟩,rfl,rfl⟩ <;>
  rcases h' with ⟨k1,rfl,rfl,rfl,rfl,rfl,rfl⟩ | ⟨k1,k2,rfl,rfl,rfl,rfl,rfl,rfl⟩ | ⟨k1,⟨i,hi,k2,k3⟩,rfl,rfl,rfl,rfl,rfl,rfl⟩ | ⟨k1,⟨i,hi,k2,k3,rfl⟩,rfl,rfl⟩ <;>
  first
   | exact ⟨rfl,rfl,rfl,rfl,rfl,rfl⟩
   | exact absurd h1 k1
   | exact absurd k1 h1
   | exact absurd h2 (k2 _ hj)
   | exact absurd k2 (h2 _ hi)
   | (obtain rfl:=h1.one hi hj (k2.trans h2.symm)
      rw [h3] at k3
      cases k3 <;> exact ⟨rfl,rfl,rfl,rfl,rfl,rfl⟩)
end Go.Proofs.Ytclbihcggjjgaaa
namespace Go.Proofs.Ytclbihcggjjgaaa
open Go Go.RowKit
set_option linter.unusedSimpArgs false
set_option linter.unusedVariables false
structure Kp (lo : Nat) (w w' : World) : Prop where
 below : Below lo w w'
 box : ∀ (b : Nat) (cs : Array Value) (t : TypeId),BoxOf w b cs t → t ≠ 30 → t ≠ 29 → t ≠ 3 → BoxOf w' b cs t
theorem Kp.refl (lo : Nat) (w : World) : Kp lo w w:=⟨Below.refl _ _,fun _ _ _ h _ _ _=>h⟩
theorem Kp.trans {lo : Nat} {a b c : World} (h : Kp lo a b) (k : Kp lo b c) : Kp lo a c:=⟨h.below.trans k.below,fun g cs t h1 h2 h3 h4=>k.box g cs t (h.box g cs t h1 h2 h3 h4) h2 h3 h4⟩
theorem Kp.of_below {lo : Nat} {w w' : World} (h : Below w.heap.size w w') (hl : lo ≤ w.heap.size) : Kp lo w w':=⟨h.mono hl,fun g cs t h1 _ _ _=>h1.next h⟩
theorem Kp.of_but {lo : Nat} {w w' : World} {t : TypeId} (h : Below lo w w') (hb : But t w w') (ht : t = 30 ∨ t = 29 ∨ t = 3) : Kp lo w w':=⟨h,fun g cs t' h1 h2 h3 h4=>h1.but hb (by rcases ht with rfl | rfl | rfl <;> assumption)⟩
theorem But.setCell {w : World} {g i : Nat} {cs : Array Value} {t : TypeId} (h : BoxOf w g cs t) (v : Value) : But t w (w.setCell ⟨g,i,none⟩ v):=fun b hb=>by
 by_cases e : b = g
 · exact .inr ⟨cs,e ▸ h⟩
 · exact .inl (Below.heap_setCell _ _ _ _ e)
theorem But.grown {w w' : World} {g : Nat} {cs : Array Value} {t : TypeId} (h : BoxOf w g cs t) (hg : w.grownBy w' (some g)) : But t w w':=fun b hb=>by
 by_cases e : b = g
 · exact .inr ⟨cs,e ▸ h⟩
 · exact .inl (hg.block b hb (fun e'=>e (Option.some.inj e')))
def dropJ (b many j : Nat) (gs : List GoTy.T) : List GoTy.T:=(gs.take j).map (dropMk b many) ++ gs.drop j
theorem dropJ_all {b many j : Nat} {gs : List GoTy.T} (h : ¬ j < gs.length) : dropJ b many j gs = dropG b many gs:=by
 unfold dropJ dropG
 rw [List.take_of_length_le (by omega),List.drop_of_length_le (by omega),List.append_nil]
theorem dropJ_len (b many j : Nat) (gs : List GoTy.T) : (dropJ b many j gs).length = gs.length:=by
 unfold dropJ
 rw [List.length_append,List.length_map,List.length_take,List.length_drop]
 omega
theorem dropJ_at {b many j : Nat} {gs : List GoTy.T} (h : j < gs.length) (h' : j < (dropJ b many j gs).length) : (dropJ b many j gs)[j] = gs[j]:=by
 have e : (dropJ b many j gs)[j]? = gs[j]?:=by
  unfold dropJ
  rw [List.getElem?_append_right (by rw [List.length_map,List.length_take];omega),List.getElem?_drop,List.length_map,List.length_take,show j + (j - min j gs.length) = j by omega]
 rw [List.getElem?_eq_getElem h',List.getElem?_eq_getElem h] at e
 exact Option.some.inj e
theorem dropJ_step {b many j : Nat} {gs : List GoTy.T} (h : j < gs.length) : dropJ b many (j + 1) gs = (dropJ b many j gs).set j (dropMk b many gs[j]):=by
 unfold dropJ
 rw [List.set_append_right _ _ (by rw [List.length_map,List.length_take];omega),List.take_succ_eq_append_getElem h,List.map_append,List.append_assoc]
 congr 1
 rw [List.length_map,List.length_take,show j - min j gs.length = 0 by omega,List.drop_eq_getElem_cons h]
 rfl
theorem dropMk_some {b many : Nat} {g : GoTy.T} {x : Int} (h : b < (mksOf g).length) (hx : x = max 0 ((mksOf g)[b] - (many : Int))) : setMks g ((mksOf g).set b x) = dropMk b many g:=by
 have hne : mksOf g ≠ []:=fun e=>by rw [e] at h;simp at h
 unfold dropMk
 rw [if_neg hne,List.getD_eq_getElem?_getD,List.getElem?_eq_getElem h,hx]
 rfl
theorem dropMk_skip {b many : Nat} {g : GoTy.T} (h : (mksOf g).length = 0) : dropMk b many g = g:=if_pos (List.eq_nil_of_length_eq_zero h)
def DropIs (By : Nat → Prop) (lo R : Nat) (B : Option Addr) (d : Nat) (ys : Ys) (gs : List GoTy.T) (w w' : World) : Prop:=
 Kp lo w w' ∧ MayS w' By lo R ys ∧ GoS w' By lo B d gs ∧ ∀ b,By b → w'.heap[b]? = w.heap[b]?
theorem drop_mid {By : Nat → Prop} {lo R : Nat} {B : Option Addr} {d : Nat} {ys : Ys} {gs : List GoTy.T} {b many : Nat} {w : World} (hM : MayS w By lo R ys) (hG : GoS w By lo B d gs) (hBy : ∀ b,By b → b < w.heap.size) (hb : b < ys.length) (hm : many ≤ (ys[b]).length) :
 ∃ g o c,w.cell? ⟨R,b,none⟩ = some (.slice (some ⟨g,o,none⟩) (ys[b]).length c) ∧ (lo ≤ R ∧ ∃ cur : Array Value,
  Calls Try.prog 88 #[.slice (some ⟨g,o,none⟩) (ys[b]).length c,.int .i64 0,.int .i64 (many : Int)] w (fun e w'=>e = .returned (.slice (some ⟨g,o,none⟩) ((ys[b]).length - many) c) ∧ DelIs g o 1 (ys[b]).length 0 many cur 29 w w') ∧
  ∀ w1,DelIs g o 1 (ys[b]).length 0 many cur 29 w w1 → ∃ cs : Array Value,BoxOf w1 R cs 30 ∧ b < cs.size ∧ DropIs By lo R B d (dropY b many ys) gs w (w1.setCell ⟨R,b,none⟩ (.slice (some ⟨g,o,none⟩) ((ys[b]).length - many) c))):=by
 obtain ⟨cells,g,o,c,q1,q2,q3,q4,q5⟩:=hM.row hb
 obtain ⟨cur,k1,k2,k3,k4,k5,k6⟩:=q4
 refine ⟨g,o,c,by rw [q1.cell];exact q3,q2.1,cur,?_,fun w1 hD=>?_⟩
 · have h:=delL_any g o (ys[b]).length c 0 many cur w k1 k2 k3 (by rw [Nat.mul_one];exact k4) (Nat.zero_le _) hm (fun q hq=>by
    rw [Nat.mul_one] at hq
    obtain ⟨u,h1,h2⟩:=k6 q hq
    exact ⟨u,h1,RdIn.plain _ h2 u (by simp)⟩)
   rw [Nat.sub_zero] at h
   exact h
 · obtain ⟨hg,cur',d1,d2,d3⟩:=hD
   have hgR : g ≠ R:=box_diff k1 q1 (by decide)
   have r1 : BoxOf w1 R cells 30:=q1.grown hg (fun e=>hgR (Option.some.inj e))
   have hbc : b < cells.size:=by have:=(List.getElem?_eq_some_iff.1 q3).1;rwa [Array.length_toList] at this
   have hf : ∀ k,k < w.heap.size → k ≠ R → k ≠ g → (w1.setCell ⟨R,b,none⟩ (.slice (some ⟨g,o,none⟩) ((ys[b]).length - many) c)).heap[k]? = w.heap[k]?:=fun k hk h1 h2=>
    (Below.heap_setCell _ _ _ _ h1).trans (hg.block k hk (fun e=>h2 (Option.some.inj e)))
   have hB2 : ∀ k,By k → (w1.setCell ⟨R,b,none⟩ (.slice (some ⟨g,o,none⟩) ((ys[b]).length - many) c)).heap[k]? = w.heap[k]?:=fun k hk=>hf k (hBy k hk) (fun e=>q2.2 (e ▸ hk)) (fun e=>k5.2 (e ▸ hk))
   have hs:=msize w1 ⟨R,b,none⟩ (.slice (some ⟨g,o,none⟩) ((ys[b]).length - many) c)
   have kp : Kp lo w (w1.setCell ⟨R,b,none⟩ (.slice (some ⟨g,o,none⟩) ((ys[b]).length - many) c)):=by
    refine ⟨⟨hg.os,hg.tape,hg.output,by rw [hs];exact hg.size,fun k hk=>?_⟩,fun k cs t h1 h2 h3 h4=>?_⟩
    · by_cases hk2 : k < w.heap.size
      · exact hf k hk2 (fun e=>by have:=q2.1;omega) (fun e=>by have:=k5.1;omega)
      · have:=q1.lt
        have:=q2.1
        omega
    · exact BoxOf.but (BoxOf.but h1 (But.grown k1 hg) h3) (But.setCell r1 _) h2
   refine ⟨cells,r1,hbc,kp,?_,?_,hB2⟩
   · have hl : (((ys[b]).drop many).length) = (ys[b]).length - many:=List.length_drop
     have e1 : dropY b many ys = ys.set b ((ys[b]).drop many):=by unfold dropY;rw [getD_lt hb]
     rw [e1]
     refine q5 _ By g o c ((ys[b]).drop many) (fun k hk h1 h2=>hf k hk h1 h2) ?_ ?_ (.inl rfl) (fun k hk=>⟨hBy k hk,hk⟩) (fun k _ h=>h)
     · rw [hl]
       exact mbox_self r1 b _
     · refine ⟨cur',mbox_else d1 hgR b _,by rw [hl];omega,k3,by rw [d2];exact k4,k5,fun k hk=>?_⟩
       rw [hl] at hk
       obtain ⟨u,h1,h2⟩:=k6 (many + k) (by omega)
       refine ⟨u,?_,?_⟩
       · rw [d3 k (by omega),if_neg (by omega),Nat.sub_zero,Nat.mul_one,Nat.add_comm k many]
         exact h1
       · rw [List.getElem_drop]
         exact h2.frame hB2
   · have g1 : GoS w1 By lo B d gs:=hG.but (t:=29) (by decide) (by decide) (But.grown k1 hg) (fun k hk=>hg.block k (hBy k hk) (fun e=>k5.2 ((Option.some.inj e) ▸ hk))) (fun _ h=>h) (fun _ _ h=>h)
     exact g1.but (t:=30) (by decide) (by decide) (But.setCell r1 _) (fun k hk=>Below.heap_setCell _ _ _ _ (fun e=>q2.2 (by have e' : k = R:=e;exact e' ▸ hk))) (fun _ h=>h) (fun _ _ h=>h)
theorem DropIs.step {By : Nat → Prop} {lo R : Nat} {B : Option Addr} {d : Nat} {ys ys' : Ys} {gs gs' : List GoTy.T} {w w' w'' : World} (h : DropIs By lo R B d ys gs w w') (h2 : DropIs By lo R B d ys' gs' w' w'') : DropIs By lo R B d ys' gs' w w'':=
 ⟨h.1.trans h2.1,h2.2.1,h2.2.2.1,fun b hb=>(h2.2.2.2 b hb).trans (h.2.2.2 b hb)⟩
theorem DropIs.next {By : Nat → Prop} {lo R : Nat} {B : Option Addr} {d : Nat} {ys : Ys} {gs : List GoTy.T} {w w' w'' : World} (h : DropIs By lo R B d ys gs w w') (hb : Below w'.heap.size w' w'') (hlo : lo ≤ w.heap.size) (hBy : ∀ b,By b → b < w.heap.size) : DropIs By lo R B d ys gs w w'':=by
 have hs:=h.1.below.size
 have hBy' : ∀ b,By b → b < w'.heap.size:=fun b hb=>Nat.lt_of_lt_of_le (hBy b hb) hs
 exact h.step ⟨Kp.of_below hb (by omega),h.2.1.mono hb hBy' (fun _ h=>h) (fun _ _ h=>h),h.2.2.1.mono hb hBy' (fun _ h=>h) (fun _ _ h=>h),fun b hb'=>hb.block b (hBy' b hb')⟩
theorem DropIs.mark {By : Nat → Prop} {lo R : Nat} {B : Option Addr} {d : Nat} {ys : Ys} {gs gs' : List GoTy.T} {w w' : World} {b i : Nat} {cur : Array Value} {v : Value} (h : DropIs By lo R B d ys gs w w') (hb : BoxOf w' b cur 3) (hl : lo ≤ b ∧ ¬ By b) (hg : GoS (w'.setCell ⟨b,i,none⟩ v) By lo B d gs') : DropIs By lo R B d ys gs' w (w'.setCell ⟨b,i,none⟩ v):=by
 have hB : ∀ k,By k → (w'.setCell ⟨b,i,none⟩ v).heap[k]? = w'.heap[k]?:=fun k hk=>Below.heap_setCell _ _ _ _ (fun e=>hl.2 (by have e' : k = b:=e;exact e' ▸ hk))
 exact h.step ⟨Kp.of_but (Below.setCell (Below.refl _ _) hl.1 v) (But.setCell hb v) (.inr (.inr rfl)),h.2.1.but (by decide) (by decide) (But.setCell hb v) hB,hg,hB⟩
theorem DropIs.cast {By : Nat → Prop} {lo R : Nat} {B : Option Addr} {d : Nat} {ys : Ys} {gs gs' : List GoTy.T} {w w' : World} (h : DropIs By lo R B d ys gs w w') (e : gs = gs') : DropIs By lo R B d ys gs' w w':=e ▸ h
set_option maxRecDepth 100000 in
set_option maxHeartbeats 400000 in
theorem sdrop_any (By : Nat → Prop) (lo R cR : Nat) (B : Option Addr) (d : Nat) (ys : Ys) (gs : List GoTy.T) (pb b many : Nat) (w : World) (hP : BoxOf w pb #[.slice (some ⟨R,0,none⟩) ys.length cR,.slice B gs.length d] 28) (hM : MayS w By lo R ys) (hG : GoS w By lo B d gs) (hBy : ∀ b,By b → b < w.heap.size) (hlo : lo ≤ w.heap.size) (hb : b < ys.length) (hm : many ≤ (ys[b]).length ∧ many ≤ 1000)
 (hmk : ∀ j (h : j < gs.length),(mksOf gs[j] = [] ∨ (mksOf gs[j]).length = ys.length) ∧ ∀ q (h' : q < (mksOf gs[j]).length),0 ≤ (mksOf gs[j])[q] ∧ (mksOf gs[j])[q] ≤ 1000) (hgl : gs.length ≤ 8) :
 Calls Try.prog 78 #[.pointer (some ⟨pb,0,none⟩),.int .i64 (b : Int),.int .i64 (many : Int)] w fun e w'=>(∃ v,e = .returned v) ∧ DropIs By lo R B d (dropY b many ys) (dropG b many gs) w w':=by
 obtain ⟨g,o,c,hRb,hlR,cur,hcall,hmid⟩:=drop_mid hM hG hBy hb hm.1
 have HCD:=Lib.hid hcall
 have HMID:=Lib.hid hmid
 have HMK:=Lib.hid hmk
 have hp:=hP.cell
 clear hM hG hcall hmid hmk
 obtain ⟨n,hn⟩ : ∃ n,n = (ys[b]).length:=⟨_,rfl⟩
 rw [← hn] at HCD HMID hRb
 have HN:=Lib.hid hn
 have HM2:=Lib.hid hm
 have HB2:=Lib.hid hBy
 have HGL:=Lib.hid hgl
 have HLO:=Lib.hid hlo
 clear hn hm hBy hgl hlo hlR
 go_enter Try.func78,Try.ntmps78
 go_wp2_with fail
 refine HCD.out.mono ?_
 rintro e w1 ⟨rfl,hd1⟩
 obtain ⟨cs,r1,hbc,hD⟩:=HMID.out w1 hd1
 have rc : w1.cell? ⟨R,b,none⟩ = some cs[b]:=by rw [r1.cell,List.getElem?_eq_getElem (by rw [Array.length_toList];exact hbc)];rfl
 have rf:=r1.free
 have HBC:=Lib.hid hbc
 have HD:=Lib.hid hD
 have HR1:=Lib.hid r1
 generalize cs[b] = old at rc
 clear hbc hD hd1 r1 HMID HCD
 go_upto_region 2 with fail
 clear rc rf hRb hp
 have hD2:=HD.out
 generalize w1.setCell ⟨R,b,none⟩ (.slice (some ⟨g,o,none⟩) (n - many) c) = w2 at *
 clear HD HR1
 have hp:=(hD2.1.box _ _ _ hP (by decide) (by decide) (by decide)).cell
 go_wp2
 clear hp
 go_loopw [27] (fun i wr=>∃ (j : Nat),j ≤ gs.length ∧ i = .int .i64 j ∧ DropIs By lo R B d (dropY b many ys) (dropJ b many j gs) w wr) (fun i _=>gs.length - (intOf i).toNat)
 case atStart=>exact ⟨0,by omega,rfl,hD2⟩
 case round=>
  obtain ⟨j,hj,rfl,hDr⟩:=hrel
  clear hD2
  by_cases hlt : j < gs.length
  · have hlj : j < (dropJ b many j gs).length:=by rw [dropJ_len];exact hlt
    obtain ⟨G,go,gcells,Ab,cb,Am,cm,rfl,g1,⟨c0,c1,c2,c3,c4,c5⟩,g2,g3,g4,g5,g6⟩:=hDr.2.2.1.mark hlj
    rw [dropJ_at hlt] at c0 c1 c2 c3 c4 c5 g2 g3 g4 g5 g6
    have HSTEP:=Lib.hid (dropJ_step (b:=b) (many:=many) hlt)
    have HMJ:=Lib.hid (HMK.out j hlt)
    generalize hgj : gs[j] = gj at *
    have HGJ:=Lib.hid hgj
    have HDR:=Lib.hid hDr
    have HG6:=Lib.hid g6
    have HWJ:=next_wrap (show gs.length ≤ maxLen by have:=HGL.out;unfold maxLen;omega) hlt
    have HLJ:=Lib.hid hlt
    clear g1 g2 g3 g4 g5 g6 hgj hDr hj hlj
    have X0:=BoxOf.new wr #[.int .i64 (nuOf gj),.int .u8 ((kiOf gj).toNat : Int),.int .i64 (atOf gj),.int .i64 (manyOf gj),.slice Ab (datOf gj).length cb,.slice Am (mksOf gj).length cm] 64
    have t0:=Ext.alloc (Below.refl wr.heap.size wr) (.cells #[.int .i64 (nuOf gj),.int .u8 ((kiOf gj).toNat : Int),.int .i64 (atOf gj),.int .i64 (manyOf gj),.slice Ab (datOf gj).length cb,.slice Am (mksOf gj).length cm] 64)
    go_upto_region 5 with fail
    generalize wr.alloc (.cells #[.int .i64 (nuOf gj),.int .u8 ((kiOf gj).toNat : Int),.int .i64 (atOf gj),.int .i64 (manyOf gj),.slice Ab (datOf gj).length cb,.slice Am (mksOf gj).length cm] 64) = wa at *
    have x0:=X0.cell
    have HDA:=Lib.hid (HDR.out.next t0 HLO.out HB2.out)
    rcases Nat.eq_zero_or_pos (mksOf gj).length with hz | hz
    · have HZ:=Lib.hid hz
      have e0 : decide ((0 : Int) < ((mksOf gj).length : Int)) = false:=by rw [hz];rfl
      rw [hz] at x0
      clear hz
      go_wp2
      go_roundw
      case rel=>
       refine ⟨j + 1,HLJ.out,by first | exact round_same HWJ | go_num,HDA.out.cast ?_⟩
       rw [HSTEP.out,dropMk_skip HZ.out]
       have h1:=dropJ_at (b:=b) (many:=many) HLJ.out (by rw [dropJ_len];exact HLJ.out)
       rw [HGJ.out] at h1
       rw [← h1,List.set_getElem_self]
      case measure=>first | exact round_less HWJ HLJ.out | (have h:=HLJ.out;simp [intOf];omega)
    · obtain ⟨mb,oo,mcur,rfl,m1,m2,m3,m4⟩:=HG6.out hz
      have hbl : b < (mksOf gj).length:=by
       rcases HMJ.out.1 with h | h
       · rw [h] at hz;simp at hz
       · rw [h];exact hb
      have hm5:=HMJ.out.2 b hbl
      have m6:=m3 b hbl
      have HM4:=Lib.hid m4
      have HM1:=Lib.hid (m1.next t0)
      have HM22:=Lib.hid m2
      have hmn : mb < wr.heap.size:=m1.lt
      have m7 : wa.cell? ⟨mb,oo + b,none⟩ = some (.int .i64 (mksOf gj)[b]):=(t0.cell (p:=⟨mb,oo + b,none⟩) hmn).trans m6
      have e0 : decide ((0 : Int) < ((mksOf gj).length : Int)) = true:=decide_eq_true (by omega)
      have HBL:=Lib.hid hbl
      generalize hmv : (mksOf gj)[b] = mv at *
      have HMV:=Lib.hid hmv
      have HM5:=Lib.hid hm5
      have e1 : IntKind.i64.wrap (mv - (many : Int)) = mv - (many : Int):=i64_fit (by have:=HM2.out;omega)
      clear hmv m1 m2 m3 m4 m6 hz hmn
      go_upto_region 6 with fail
      have Xd:=X0.drew
      have m8 : wa.drew.cell? ⟨mb,oo + b,none⟩ = some (.int .i64 mv):=m7
      refine wp_region_held_drew (S:=fun w'=>∀ o,w'.cell? ⟨wr.heap.size,o,none⟩ = (#[.int .i64 (nuOf gj),.int .u8 ((kiOf gj).toNat : Int),.int .i64 (atOf gj),.int .i64 (manyOf gj),.slice Ab (datOf gj).length cb,.slice (some ⟨mb,oo,none⟩) (mksOf gj).length cm] : Array Value).toList[o]?) (by kernel_rfl) Xd.cell (fun hS=>?_)
      clear x0 m7
      refine wpAnyH_take (i:=0) (v:=?_) rfl (by kernel_rfl) (by kernel_rfl) (by kernel_rfl) (fun _ _ _ h=>h) (Or.inl ⟨by rfl,?_⟩) hS ?_
      rotate_left
      · (intro w hSw;(try dsimp only at hSw);go_simp;(try with_reducible rfl))
      rotate_left
      simp only [Act.put,zq0,zq1,zq2,zq3,zq4,zq5]
      refine wpAnyH_take (i:=1) (v:=?_) rfl (by kernel_rfl) (by kernel_rfl) (by kernel_rfl) (fun _ _ _ h=>h) (Or.inl ⟨by rfl,?_⟩) hS ?_
      rotate_left
      · (intro w hSw;(try dsimp only at hSw);go_simp;(try with_reducible rfl))
      rotate_left
      simp only [Act.put,zq0,zq1,zq2,zq3,zq4,zq5]
      refine wpAnyH_take (i:=2) (v:=?_) rfl (by kernel_rfl) (by kernel_rfl) (by kernel_rfl) (fun _ _ _ h=>h) (Or.inl ⟨by rfl,?_⟩) hS ?_
      rotate_left
      · (intro w hSw;(try dsimp only at hSw);go_simp;(try with_reducible rfl))
      rotate_left
      simp only [Act.put,zq0,zq1,zq2,zq3,zq4,zq5]
      refine wpAnyH_take (i:=3) (v:=?_) rfl (by kernel_rfl) (by kernel_rfl) (by kernel_rfl) (fun _ _ _ h=>h) (Or.inl ⟨by rfl,?_⟩) hS ?_
      rotate_left
      · (intro w hSw;(try dsimp only at hSw);go_simp;(try with_reducible rfl))
      rotate_left
      simp only [Act.put,zq0,zq1,zq2,zq3,zq4,zq5]
      refine wpAnyH_take (i:=4) (v:=?_) rfl (by kernel_rfl) (by kernel_rfl) (by kernel_rfl) (fun _ _ _ h=>h) (Or.inl ⟨by rfl,?_⟩) hS ?_
      rotate_left
      · (intro w hSw;(try dsimp only at hSw);go_simp;(try with_reducible rfl))
      rotate_left
      simp only [Act.put,zq0,zq1,zq2,zq3,zq4,zq5]
      refine wpAnyH_take (i:=5) (v:=?_) rfl (by kernel_rfl) (by kernel_rfl) (by kernel_rfl) (fun _ _ _ h=>h) (Or.inl ⟨by rfl,?_⟩) hS ?_
      rotate_left
      · (intro w hSw;(try dsimp only at hSw);go_simp;(try with_reducible rfl))
      rotate_left
      simp only [Act.put,zq0,zq1,zq2,zq3,zq4,zq5]
      refine wpAnyH_take (i:=6) (v:=?_) rfl (by kernel_rfl) (by kernel_rfl) (by kernel_rfl) (fun _ _ _ h=>h) (Or.inl ⟨by rfl,?_⟩) hS ?_
      rotate_left
      · (intro w hSw;(try dsimp only at hSw);go_simp;(try with_reducible rfl))
      rotate_left
      simp only [Act.put,zq0,zq1,zq2,zq3,zq4,zq5]
      refine wpAnyH_take (i:=8) (v:=?_) rfl (by kernel_rfl) (by kernel_rfl) (by kernel_rfl) (fun _ _ _ h=>h) (Or.inl ⟨by rfl,?_⟩) hS ?_
      rotate_left
      · (intro w hSw;(try dsimp only at hSw);go_simp;(try with_reducible rfl))
      rotate_left
      simp only [Act.put,zq0,zq1,zq2,zq3,zq4,zq5]
      refine wpAnyH_ready (rs:=[7]) (by kernel_rfl) (by simp) ?_
      refine AllReadyH.cons rfl (fun K hK=>?_) AllReadyH.nil
      rw [if_pos (by rfl)]
      go_simp
      refine hK.out _ _ Xd.cell (fun hS'=>?_)
      clear hK K hS
      have hS:=hS'
      clear hS'
      try simp only [Act.put,zq0,zq1,zq2,zq3,zq4,zq5]
      refine wpAnyH_take (i:=9) (v:=?_) rfl (by kernel_rfl) (by kernel_rfl) (by kernel_rfl) (fun _ _ _ h=>h) (Or.inl ⟨by rfl,?_⟩) hS ?_
      rotate_left
      · (intro w hSw;(try dsimp only at hSw);go_simp;(try with_reducible rfl))
      rotate_left
      simp only [Act.put,zq0,zq1,zq2,zq3,zq4,zq5]
      refine wpAnyH_take (i:=10) (v:=?_) rfl (by kernel_rfl) (by kernel_rfl) (by kernel_rfl) (fun _ _ _ h=>h) (Or.inl ⟨by rfl,?_⟩) hS ?_
      rotate_left
      · (intro w hSw;(try dsimp only at hSw);go_simp;(try with_reducible rfl))
      rotate_left
      simp only [Act.put,zq0,zq1,zq2,zq3,zq4,zq5]
      refine wpAnyH_take (i:=11) (v:=?_) rfl (by kernel_rfl) (by kernel_rfl) (by kernel_rfl) (fun _ _ _ h=>h) (Or.inl ⟨by rfl,?_⟩) hS ?_
      rotate_left
      · (intro w hSw;(try dsimp only at hSw);go_simp;(try with_reducible rfl))
      rotate_left
      simp only [Act.put,zq0,zq1,zq2,zq3,zq4,zq5]
      refine wpAnyH_ready (rs:=[12]) (by kernel_rfl) (by simp) ?_
      refine AllReadyH.cons rfl (fun K hK=>?_) AllReadyH.nil
      rw [if_pos (by rfl)]
      have mf:=(HM1.out.drew).free
      have hXm : wr.heap.size ≠ mb:=box_diff Xd HM1.out.drew (by decide)
      go_simp
      have Xe:=mbox_else Xd hXm (oo + b) (.int .i64 (max 0 (mv - (many : Int))))
      refine hK.out _ _ Xe.cell (fun hS'=>?_)
      clear hK K hS hS' mf
      try simp only [Act.put,zq0,zq1,zq2,zq3,zq4,zq5]
      refine wpAnyH_done (by kernel_rfl) ?_ _
      have HDE : Hid (DropIs By lo R (some ⟨G,go,none⟩) d (dropY b many ys) (dropJ b many (j + 1) gs) w (wa.setCell ⟨mb,oo + b,none⟩ (.int .i64 (max 0 (mv - (many : Int))))).drew):=by
       show DropIs By lo R (some ⟨G,go,none⟩) d (dropY b many ys) (dropJ b many (j + 1) gs) w (wa.drew.setCell ⟨mb,oo + b,none⟩ (.int .i64 (max 0 (mv - (many : Int)))))
       have td:=Ext.drew t0
       have hs:=HDR.out.1.below.size
       have hgo:=HM4.out wa.drew b (max 0 (mv - (many : Int))) td (fun k hk=>Nat.lt_of_lt_of_le (HB2.out k hk) hs) HBL.out (by have:=HM2.out;have:=HM5.out;constructor <;> omega)
       refine ((HDR.out.next td HLO.out HB2.out).mark HM1.out.drew HM22.out hgo).cast ?_
       rw [HSTEP.out]
       congr 1
       exact dropMk_some HBL.out (congrArg (fun z=>max 0 (z - (many : Int))) HMV.out.symm)
      generalize (wa.setCell ⟨mb,oo + b,none⟩ (.int .i64 (max 0 (mv - (many : Int))))).drew = wz at *
      clear m8 Xd Xe t0 X0 hXm
      go_wp2
      go_roundw
      case rel=>exact ⟨j + 1,HLJ.out,by first | exact round_same HWJ | go_num,HDE.out⟩
      case measure=>first | exact round_less HWJ HLJ.out | (have h:=HLJ.out;simp [intOf];omega)
  · have HDE:=Lib.hid (hDr.cast (dropJ_all hlt))
    go_wp2
    refine bodyPost_end (results_none rfl _ _ _) rfl ?_
    exact ⟨⟨_,rfl⟩,HDE.out⟩
end Go.Proofs.Ytclbihcggjjgaaa
namespace Go.Proofs.Ytclbihcggjjgaaa
open Go Go.RowKit
set_option linter.unusedSimpArgs false
set_option linter.unusedVariables false
theorem wpList_pushS {P : Program} {w : World} {ops : Array Oper} {rest : List Oper} {op : Oper} {a : Act} {Q : Exit → Act → World → Prop} (hgd : op.guard = none) (s x : Operand) (t : TypeId)
 (hop : op.op = .call { callee:=.builtin .append,args:=#[s,x],argTypes:=#[t,t] })
 (i : TypeInfo) (z : Value) (ht : P.underlying t = some (.slice 29)) (hi : P.info? 29 = some i) (hz : i.zero = some z) (hsize : i.size = 1) (hby : i.bytes = 24) (hzs : z.cells.size = 1)
 (By : Nat → Prop) (lo g o c : Nat) (zs : List (List UInt8)) (hrow : RowS w By lo g o c zs) (hs : a.eval s = .slice (some ⟨g,o,none⟩) zs.length c)
 (q k : Nat) (u : Value) (hx : a.eval x = .slice (some ⟨q,0,none⟩) 1 k) (hq : w.cell? ⟨q,0,none⟩ = some u) (v : List UInt8) (hu : RdIn w By (.sl .byte) v [u]) (hBy : ∀ b,By b → b < w.heap.size) (hl : zs.length ≤ 1000) (hlo : lo ≤ w.heap.size)
 (h : ∀ w' g' o' c',RowS w' By lo g' o' c' (zs ++ [v]) → (g' = g ∨ w.heap.size ≤ g') → w.grownBy w' (some g) → wpList P ops Q rest (a.put op.dst (.slice (some ⟨g',o',none⟩) (zs.length + 1) c')) w') : wpList P ops Q (op :: rest) a w:=by
 obtain ⟨cur,k1,k2,k3,k4,k5,k6⟩:=hrow
 have hcl : cur.toList.length = cur.size:=Array.length_toList
 have hu1 : u.oneCell' = true:=RdIn.plain _ hu u (by simp)
 refine wpList_append_arg w hgd s x t hop 29 i z 1 24 ht hi hz hsize hby hzs (by decide) g o zs.length c ((cur.toList.drop o).take zs.length) hs ?_ ?_ ⟨q,0,none⟩ 1 k [u] hx rfl ?_ ?_ ?_ ?_ ?_ ?_ ?_
 · rw [List.length_take,List.length_drop,hcl];omega
 · intro j w2 hj
   rw [List.getElem?_take] at hj
   split at hj
   · rw [k1.cell,← List.getElem?_drop];exact hj
   · cases hj
 · intro j w2 hj
   have h0 : j = 0:=by have:=(List.getElem?_eq_some_iff.1 hj).1;simpa using this
   subst h0
   rw [add_plain]
   rw [← hj]
   exact hq
 · intro w2 h2
   rw [List.mem_singleton.1 h2]
   exact hu1
 · intro hr j hj
   refine ⟨?_,k1.free _⟩
   have hj0 : j = 0:=by simpa using hj
   subst hj0
   rw [k1.cell,List.getElem?_eq_getElem (by rw [hcl];omega)]
   rfl
 · unfold maxLen;omega
 · omega
 · intro hr
   obtain ⟨cur',d1,d2,d3⟩:=box_setCells [u] (o + zs.length * 1) w cur k1 (by simp;omega)
   have hg:=grown_setCells g [u] (o + zs.length * 1) w
   refine h _ g o c ⟨cur',d1,by rw [List.length_append,List.length_singleton];exact hr,k3,by rw [d2];exact k4,k5,fun j hj=>?_⟩ (.inl rfl) hg
   have hB : ∀ b,By b → (w.setCells g (o + zs.length * 1) [u]).heap[b]? = w.heap[b]?:=fun b hb=>hg.block b (hBy b hb) (fun e=>k5.2 ((Option.some.inj e) ▸ hb))
   rw [List.length_append,List.length_singleton] at hj
   by_cases hj2 : j < zs.length
   · obtain ⟨u2,e1,e2⟩:=k6 j hj2
     refine ⟨u2,?_,?_⟩
     · rw [d3,if_neg (by omega)];exact e1
     · rw [List.getElem_append_left hj2];exact e2.frame hB
   · have : j = zs.length:=by omega
     subst this
     refine ⟨u,?_,?_⟩
     · rw [d3,if_pos (by simp),show o + zs.length - (o + zs.length * 1) = 0 by omega];rfl
     · rw [List.getElem_append_right (Nat.le_refl _)]
       simp only [Nat.sub_self,List.getElem_singleton]
       exact hu.frame hB
 · intro hg0 v' w' hown hgr
   obtain ⟨g',c',cur',rfl,e1,e2,e3,e4,e5,e6⟩:=own_view hown (by omega)
   have hB : ∀ b,By b → w'.heap[b]? = w.heap[b]?:=fun b hb=>hgr.block b (hBy b hb) (fun e=>by cases e)
   have hg2 : w.grownBy w' (some g):=⟨hgr.os,hgr.tape,hgr.output,hgr.size,fun b hb _=>hgr.block b hb (fun e=>by cases e)⟩
   refine h w' g' 0 c' ⟨cur',e2,by rw [List.length_append,List.length_singleton];exact e3,e4,by rw [e5];omega,⟨by omega,fun hh=>by have:=hBy _ hh;omega⟩,fun j hj=>?_⟩ (.inr e1) hg2
   rw [List.length_append,List.length_singleton] at hj
   have e7:=e6 j (by omega)
   by_cases hj2 : j < zs.length
   · obtain ⟨u2,f1,f2⟩:=k6 j hj2
     refine ⟨u2,?_,?_⟩
     · rw [Nat.zero_add,e7,List.getElem?_append_left (by rw [List.length_take,List.length_drop,hcl];omega),List.getElem?_take,if_pos hj2,List.getElem?_drop]
       exact f1
     · rw [List.getElem_append_left hj2];exact f2.frame hB
   · have : j = zs.length:=by omega
     subst this
     have hll : ((cur.toList.drop o).take zs.length).length = zs.length:=by rw [List.length_take,List.length_drop,hcl];omega
     refine ⟨u,?_,?_⟩
     · rw [Nat.zero_add,e7,List.getElem?_append_right (by rw [hll];exact Nat.le_refl _),hll,Nat.sub_self];rfl
     · rw [List.getElem_append_right (Nat.le_refl _)]
       simp only [Nat.sub_self,List.getElem_singleton]
       exact hu.frame hB
def ESt (By0 : Nat → Prop) (lo R : Nat) (B : Option Addr) (d : Nat) (s : Ys × List GoTy.T) (w w' : World) : Prop:=
 ∃ By : Nat → Prop,(∀ b,By0 b → By b) ∧ (∀ b,By b → NewB lo w' b) ∧ Kp lo w w' ∧ MayS w' By lo R s.1 ∧ GoS w' By lo B d s.2 ∧ ∀ b,By0 b → w'.heap[b]? = w.heap[b]?
theorem ESt.start {By : Nat → Prop} {lo R : Nat} {B : Option Addr} {d : Nat} {s : Ys × List GoTy.T} {w : World} (hM : MayS w By lo R s.1) (hG : GoS w By lo B d s.2) (hBy : ∀ b,By b → NewB lo w b) : ESt By lo R B d s w w:=
 ⟨By,fun _ h=>h,hBy,Kp.refl _ _,hM,hG,fun _ _=>rfl⟩
theorem newB_next {lo : Nat} {w w' : World} {b : Nat} (h : NewB lo w b) (hs : w.heap.size ≤ w'.heap.size) (hb : w'.heap[b]? = w.heap[b]?) : NewB lo w' b:=by
 obtain ⟨h1,h2,cs,t,h3⟩:=h
 exact ⟨h1,by omega,cs,t,by rw [hb];exact h3⟩
theorem ESt.next {By0 : Nat → Prop} {lo R : Nat} {B : Option Addr} {d : Nat} {s : Ys × List GoTy.T} {w w' w'' : World} (h : ESt By0 lo R B d s w w') (hb : Below w'.heap.size w' w'') (hlo : lo ≤ w'.heap.size) : ESt By0 lo R B d s w w'':=by
 obtain ⟨By,h1,h2,h3,h4,h5,h6⟩:=h
 have hlt : ∀ b,By b → b < w'.heap.size:=fun b hb=>(h2 b hb).2.1
 exact ⟨By,h1,fun b hB=>newB_next (h2 b hB) hb.size (hb.block b (hlt b hB)),h3.trans (Kp.of_below hb hlo),h4.mono hb hlt (fun _ h=>h) (fun _ _ h=>h),h5.mono hb hlt (fun _ h=>h) (fun _ _ h=>h),fun b hB=>(hb.block b (hlt b (h1 b hB))).trans (h6 b hB)⟩
theorem ESt.cast {By0 : Nat → Prop} {lo R : Nat} {B : Option Addr} {d : Nat} {s s' : Ys × List GoTy.T} {w w' : World} (h : ESt By0 lo R B d s w w') (e : s = s') : ESt By0 lo R B d s' w w':=e ▸ h
def Fit (s : Ys × List GoTy.T) : Prop:=s.2.length ≤ 8 ∧ s.1.length ≤ 1000 ∧ ∀ j (h : j < s.2.length),(mksOf s.2[j] = [] ∨ (mksOf s.2[j]).length = s.1.length) ∧ ∀ q (h' : q < (mksOf s.2[j]).length),0 ≤ (mksOf s.2[j])[q] ∧ (mksOf s.2[j])[q] ≤ 1000
theorem PlainOk.fits {x : Cfg} {s : Ys × List GoTy.T} (h : PlainOk x s.1 s.2) : Fit s:=by
 refine ⟨h.few,h.short,fun j hj=>⟨(h.marks hj).1,fun q hq=>?_⟩⟩
 obtain ⟨hq',h1,h2⟩:=(h.marks hj).2 q hq
 have:=(h.row hq').2.1
 omega
theorem sdrop_est {By0 : Nat → Prop} {lo R cR : Nat} {B : Option Addr} {d : Nat} {s : Ys × List GoTy.T} {w w' : World} (h : ESt By0 lo R B d s w w') (hlo : lo ≤ w'.heap.size) {pb : Nat} (hP : BoxOf w' pb #[.slice (some ⟨R,0,none⟩) s.1.length cR,.slice B s.2.length d] 28) (hf : Fit s) {b many : Nat} (hb : b < s.1.length) (hm : many ≤ (s.1[b]).length ∧ many ≤ 1000) :
 Calls Try.prog 78 #[.pointer (some ⟨pb,0,none⟩),.int .i64 (b : Int),.int .i64 (many : Int)] w' fun e w''=>(∃ v,e = .returned v) ∧ ESt By0 lo R B d (dropS b many s) w w'' ∧ Kp lo w' w'':=by
 obtain ⟨By,h1,h2,h3,h4,h5,h6⟩:=h
 refine (sdrop_any By lo R cR B d s.1 s.2 pb b many w' hP h4 h5 (fun b hb=>(h2 b hb).2.1) hlo hb hm hf.2.2 hf.1).mono ?_
 rintro e w'' ⟨hv,k1,k2,k3,k4⟩
 exact ⟨hv,⟨By,h1,fun b hB=>newB_next (h2 b hB) k1.below.size (k4 b hB),h3.trans k1,k2,k3,fun b hB=>(k4 b (h1 b hB)).trans (h6 b hB)⟩,k1⟩
end Go.Proofs.Ytclbihcggjjgaaa
namespace Go.Proofs.Ytclbihcggjjgaaa
open Go Go.RowKit
set_option linter.unusedSimpArgs false
set_option linter.unusedVariables false
def EStV (By0 : Nat → Prop) (lo R : Nat) (B : Option Addr) (d : Nat) (s : Ys × List GoTy.T) (v : List UInt8) (u : Value) (w w' : World) : Prop:=
 ∃ By : Nat → Prop,(∀ b,By0 b → By b) ∧ (∀ b,By b → NewB lo w' b) ∧ Kp lo w w' ∧ MayS w' By lo R s.1 ∧ GoS w' By lo B d s.2 ∧ (∀ b,By0 b → w'.heap[b]? = w.heap[b]?) ∧ RdIn w' By (.sl .byte) v [u]
theorem ESt.val {By0 : Nat → Prop} {lo R : Nat} {B : Option Addr} {d : Nat} {s : Ys × List GoTy.T} {v : List UInt8} {u : Value} {w w' w'' : World} (h : ESt By0 lo R B d s w w') (hb : Below w'.heap.size w' w'') (hlo : lo ≤ w'.heap.size) (hr : RdIn w'' (NewB w'.heap.size w'') (.sl .byte) v [u]) : EStV By0 lo R B d s v u w w'':=by
 obtain ⟨By,h1,h2,h3,h4,h5,h6⟩:=h
 have hlt : ∀ b,By b → b < w'.heap.size:=fun b hb=>(h2 b hb).2.1
 have hn : ∀ b,b < w'.heap.size → (By b ∨ NewB w'.heap.size w'' b) → By b:=fun b hb h=>h.elim id (fun h=>by have:=h.1;omega)
 refine ⟨fun b=>By b ∨ NewB w'.heap.size w'' b,fun b hb=>.inl (h1 b hb),fun b hB=>?_,h3.trans (Kp.of_below hb hlo),h4.mono hb hlt (fun _ h=>.inl h) hn,h5.mono hb hlt (fun _ h=>.inl h) hn,fun b hB=>(hb.block b (hlt b (h1 b hB))).trans (h6 b hB),hr.mono fun b hb=>.inr hb⟩
 rcases hB with hB | hB
 · exact newB_next (h2 b hB) hb.size (hb.block b (hlt b hB))
 · exact ⟨by have:=hB.1;omega,hB.2⟩
theorem EStV.next {By0 : Nat → Prop} {lo R : Nat} {B : Option Addr} {d : Nat} {s : Ys × List GoTy.T} {v : List UInt8} {u : Value} {w w' w'' : World} (h : EStV By0 lo R B d s v u w w') (hb : Below w'.heap.size w' w'') (hlo : lo ≤ w'.heap.size) : EStV By0 lo R B d s v u w w'':=by
 obtain ⟨By,h1,h2,h3,h4,h5,h6,h7⟩:=h
 have hlt : ∀ b,By b → b < w'.heap.size:=fun b hb=>(h2 b hb).2.1
 exact ⟨By,h1,fun b hB=>newB_next (h2 b hB) hb.size (hb.block b (hlt b hB)),h3.trans (Kp.of_below hb hlo),h4.mono hb hlt (fun _ h=>h) (fun _ _ h=>h),h5.mono hb hlt (fun _ h=>h) (fun _ _ h=>h),fun b hB=>(hb.block b (hlt b (h1 b hB))).trans (h6 b hB),h7.below hb⟩
theorem EStV.push {By0 : Nat → Prop} {lo R : Nat} {B : Option Addr} {d : Nat} {s : Ys × List GoTy.T} {v : List UInt8} {u : Value} {w w1 : World} (h : EStV By0 lo R B d s v u w w1) {b : Nat} (hb : b < s.1.length) :
 ∃ g o c,w1.cell? ⟨R,b,none⟩ = some (.slice (some ⟨g,o,none⟩) (s.1[b]).length c) ∧ ∃ By : Nat → Prop,RowS w1 By lo g o c s.1[b] ∧ RdIn w1 By (.sl .byte) v [u] ∧ (∀ b,By b → b < w1.heap.size) ∧
  ∀ w2 g' o' c',RowS w2 By lo g' o' c' (s.1[b] ++ [v]) → (g' = g ∨ w1.heap.size ≤ g') → w1.grownBy w2 (some g) → ∃ cs : Array Value,BoxOf w2 R cs 30 ∧ b < cs.size ∧
   ESt By0 lo R B d (pushY b v s.1,s.2) w (w2.setCell ⟨R,b,none⟩ (.slice (some ⟨g',o',none⟩) ((s.1[b]).length + 1) c')) ∧ Kp lo w1 (w2.setCell ⟨R,b,none⟩ (.slice (some ⟨g',o',none⟩) ((s.1[b]).length + 1) c')):=by
 obtain ⟨By,h1,h2,h3,h4,h5,h6,h7⟩:=h
 obtain ⟨cells,g,o,c,q1,q2,q3,q4,q5⟩:=h4.row hb
 have hlt : ∀ b,By b → b < w1.heap.size:=fun b hb=>(h2 b hb).2.1
 refine ⟨g,o,c,by rw [q1.cell];exact q3,By,q4,h7,hlt,fun w2 g' o' c' hrow hg' hgr=>?_⟩
 obtain ⟨cur,k1,k2,k3,k4,k5,k6⟩:=q4
 have hgR : g ≠ R:=box_diff k1 q1 (by decide)
 have r1 : BoxOf w2 R cells 30:=q1.grown hgr (fun e=>hgR (Option.some.inj e))
 have hbc : b < cells.size:=by have:=(List.getElem?_eq_some_iff.1 q3).1;rwa [Array.length_toList] at this
 have hf : ∀ k,k < w1.heap.size → k ≠ R → k ≠ g → (w2.setCell ⟨R,b,none⟩ (.slice (some ⟨g',o',none⟩) ((s.1[b]).length + 1) c')).heap[k]? = w1.heap[k]?:=fun k hk h1 h2=>
  (Below.heap_setCell _ _ _ _ h1).trans (hgr.block k hk (fun e=>h2 (Option.some.inj e)))
 have hB2 : ∀ k,By k → (w2.setCell ⟨R,b,none⟩ (.slice (some ⟨g',o',none⟩) ((s.1[b]).length + 1) c')).heap[k]? = w1.heap[k]?:=fun k hk=>hf k (hlt k hk) (fun e=>q2.2 (e ▸ hk)) (fun e=>k5.2 (e ▸ hk))
 have hs:=msize w2 ⟨R,b,none⟩ (.slice (some ⟨g',o',none⟩) ((s.1[b]).length + 1) c')
 have hsz : w1.heap.size ≤ (w2.setCell ⟨R,b,none⟩ (.slice (some ⟨g',o',none⟩) ((s.1[b]).length + 1) c')).heap.size:=by rw [hs];exact hgr.size
 have kp : Kp lo w1 (w2.setCell ⟨R,b,none⟩ (.slice (some ⟨g',o',none⟩) ((s.1[b]).length + 1) c')):=by
  refine ⟨⟨hgr.os,hgr.tape,hgr.output,hsz,fun k hk=>?_⟩,fun k cs t h1 h2 h3 h4=>?_⟩
  · by_cases hk2 : k < w1.heap.size
    · exact hf k hk2 (fun e=>by have:=q2.1;omega) (fun e=>by have:=k5.1;omega)
    · have:=q1.lt
      have:=q2.1
      omega
  · exact BoxOf.but (BoxOf.but h1 (But.grown k1 hgr) h3) (But.setCell r1 _) h2
 refine ⟨cells,r1,hbc,⟨By,h1,fun k hk=>newB_next (h2 k hk) hsz (hB2 k hk),h3.trans kp,?_,?_,fun k hk=>(hB2 k (h1 k hk)).trans (h6 k hk)⟩,kp⟩
 · have e1 : pushY b v s.1 = s.1.set b (s.1[b] ++ [v]):=by unfold pushY;rw [getD_lt hb]
   rw [e1]
   refine q5 _ By g' o' c' (s.1[b] ++ [v]) (fun k hk h1 h2=>hf k hk h1 h2) ?_ ?_ hg' (fun k hk=>⟨hlt k hk,hk⟩) (fun k _ h=>h)
   · rw [List.length_append,List.length_singleton]
     exact mbox_self r1 b _
   · obtain ⟨cur',d1,d2,d3,d4,d5,d6⟩:=hrow
     have hgR' : g' ≠ R:=box_diff d1 r1 (by decide)
     refine RowS.frame ⟨cur',d1,d2,d3,d4,d5,d6⟩ (Below.heap_setCell _ _ _ _ hgR') (fun k hk=>Below.heap_setCell _ _ _ _ (fun e=>q2.2 (by have e' : k = R:=e;exact e' ▸ hk))) (fun _ h=>h) d5.2
 · have g1 : GoS w2 By lo B d s.2:=h5.but (t:=29) (by decide) (by decide) (But.grown k1 hgr) (fun k hk=>hgr.block k (hlt k hk) (fun e=>k5.2 ((Option.some.inj e) ▸ hk))) (fun _ h=>h) (fun _ _ h=>h)
   exact g1.but (t:=30) (by decide) (by decide) (But.setCell r1 _) (fun k hk=>Below.heap_setCell _ _ _ _ (fun e=>q2.2 (by have e' : k = R:=e;exact e' ▸ hk))) (fun _ h=>h) (fun _ _ h=>h)
theorem MayS.cell {w : World} {By : Nat → Prop} {lo R : Nat} {ys : Ys} (h : MayS w By lo R ys) {b : Nat} (hb : b < ys.length) : ∃ g o c,w.cell? ⟨R,b,none⟩ = some (.slice (some ⟨g,o,none⟩) (ys[b]).length c):=by
 obtain ⟨cells,g,o,c,q1,q2,q3,_⟩:=h.row hb
 exact ⟨g,o,c,by rw [q1.cell];exact q3⟩
theorem MayS.last {w : World} {By : Nat → Prop} {lo R : Nat} {ys : Ys} (h : MayS w By lo R ys) {b : Nat} (hb : b < ys.length) (h0 : 0 < (ys[b]).length) : ∃ g o c A' c',w.cell? ⟨R,b,none⟩ = some (.slice (some ⟨g,o,none⟩) (ys[b]).length c) ∧ w.cell? ⟨g,o + ((ys[b]).length - 1),none⟩ = some (.slice A' ((ys.getD b []).getLastD []).length c') ∧ RdIn w By (.sl .byte) ((ys.getD b []).getLastD []) [.slice A' ((ys.getD b []).getLastD []).length c']:=by
 obtain ⟨cells,g,o,c,q1,q2,q3,⟨cur,k1,k2,k3,k4,k5,k6⟩,_⟩:=h.row hb
 obtain ⟨u,e1,e2⟩:=k6 ((ys[b]).length - 1) (by omega)
 have e3 : (ys.getD b []).getLastD [] = (ys[b])[(ys[b]).length - 1]:=by
  rw [getD_lt hb,List.getLastD_eq_getLast?,List.getLast?_eq_getElem?,List.getElem?_eq_getElem (by omega)]
  rfl
 obtain ⟨A',c',rfl,_⟩:=e2.bytes
 refine ⟨g,o,c,A',c',by rw [q1.cell];exact q3,?_,?_⟩
 · rw [k1.cell,e1,e3]
 · rw [e3];exact e2
def readS (s : Ys × List GoTy.T) (a : Nat) : Nat → List UInt8
 | 0=>[]
 | i + 1=>readS s a i ++ (s.1.getD (a + i) []).getLastD []
theorem endS_read {k : Int} (hk : kWrites k = false) (bs : List UInt8) (a : Nat) (s : Ys × List GoTy.T) : ∀ i,endS k bs a i s = some (s,readS s a i)
 | 0=>rfl
 | i + 1=>by
   show (endS k bs a i s).bind (stepS k bs a i) = _
   rw [endS_read hk bs a s i]
   show stepS k bs a i (s,readS s a i) = _
   unfold stepS
   rw [hk]
   rfl
theorem endS_none {k : Int} {bs : List UInt8} {a : Nat} {s : Ys × List GoTy.T} {i : Nat} (h : endS k bs a i s = none) : ∀ j,i ≤ j → endS k bs a j s = none
 | 0,hj=>by have : i = 0:=by omega
            subst this
            exact h
 | j + 1,hj=>by
   by_cases e : i = j + 1
   · rw [← e];exact h
   · show (endS k bs a j s).bind (stepS k bs a j) = none
     rw [endS_none h j (by omega)]
     rfl
def SendIs (By : Nat → Prop) (lo R : Nat) (B : Option Addr) (d : Nat) (r : Option ((Ys × List GoTy.T) × List UInt8)) (e : Ending) (w w' : World) : Prop:=
 (r = none ∧ e = .returned (.tuple #[.slice none 0 0,.bool false])) ∨ ∃ t dat D q,r = some (t,dat) ∧ e = .returned (.tuple #[.slice D dat.length q,.bool true]) ∧ RdIn w' (NewB lo w') (.sl .byte) dat [.slice D dat.length q] ∧ ESt By lo R B d t w w'
end Go.Proofs.Ytclbihcggjjgaaa
namespace Go.Proofs.Ytclbihcggjjgaaa
open Go Go.RowKit
set_option linter.unusedSimpArgs false
set_option linter.unusedVariables false
set_option maxRecDepth 100000 in
set_option maxHeartbeats 1000000 in
theorem send_any (x : Cfg) (By : Nat → Prop) (lo R cR : Nat) (B : Option Addr) (d : Nat) (s : Ys × List GoTy.T) (pb : Nat) (nu : Int) (ki : UInt8) (a y : Nat) (bs : List UInt8) (ms : List Int) (Ab : Option Addr) (cb : Nat) (Am : Option Addr) (cm : Nat) (w : World)
 (hP : BoxOf w pb #[.slice (some ⟨R,0,none⟩) s.1.length cR,.slice B s.2.length d] 28) (hM : MayS w By lo R s.1) (hG : GoS w By lo B d s.2) (hBy : ∀ b,By b → NewB lo w b) (hlo : lo ≤ w.heap.size) (hok : PlainOk x s.1 s.2) (hy : y ≤ 8) (hay : a + y ≤ s.1.length) (hbs : kBytes (ki.toNat : Int) = true → y * 128 ≤ bs.length)
 (hml : ms.length ≤ s.1.length) (hmk : ∀ q (hq : q < ms.length),∃ hq' : q < s.1.length,0 ≤ ms[q] ∧ ms[q] < ((s.1[q]).length : Int)) (hd : RdIn w By (.sl .byte) bs [.slice Ab bs.length cb]) (hm : RdIn w By (.sl .int) ms [.slice Am ms.length cm]) :
 Calls Try.prog 59 #[.pointer (some ⟨pb,0,none⟩),.agg #[.int .i64 nu,.int .u8 (ki.toNat : Int),.int .i64 (a : Int),.int .i64 (y : Int),.slice Ab bs.length cb,.slice Am ms.length cm]] w fun e w'=>SendIs By lo R B d (endS (ki.toNat : Int) bs a y (marksS ms ms.length s)) e w w' ∧ Kp lo w w':=by
 have HES:=Lib.hid (ESt.start hM hG hBy)
 have HMS:=Lib.hid (marksS_ok hok hml hmk)
 have HMK:=Lib.hid hmk
 have HML:=Lib.hid hml
 have HOK:=Lib.hid hok
 have HYS:=Lib.hid hok.short
 have HAY:=Lib.hid (And.intro hy hay)
 have HBS:=Lib.hid hbs
 have HD:=Lib.hid hd
 have HM:=Lib.hid hm
 have HLO:=Lib.hid hlo
 have HBY:=Lib.hid hBy
 have HMX:=Lib.hid (mark_max hm)
 clear hM hG hBy hok hml hmk hy hay hbs hd hm hlo
 have X0:=BoxOf.new w #[.int .i64 nu,.int .u8 (ki.toNat : Int),.int .i64 (a : Int),.int .i64 (y : Int),.slice Ab bs.length cb,.slice Am ms.length cm] 64
 have t0:=Ext.alloc (Below.refl w.heap.size w) (.cells #[.int .i64 nu,.int .u8 (ki.toNat : Int),.int .i64 (a : Int),.int .i64 (y : Int),.slice Ab bs.length cb,.slice Am ms.length cm] 64)
 have P0:=hP.next t0
 go_enter Try.func59,Try.ntmps59
 go_upto_region 1 with fail
 have HE0:=Lib.hid (HES.out.next t0 HLO.out)
 have HKP:=Lib.hid (Kp.of_below (lo:=lo) t0 HLO.out)
 have HT0:=Lib.hid t0
 obtain ⟨il,hil,hl0,hl1,hl2⟩:=minfo_bytes
 obtain ⟨gx,hgx⟩ : ∃ z : Nat,z = w.heap.size:=⟨_,rfl⟩
 rw [← hgx] at X0 ⊢
 have HGX:=Lib.hid hgx
 clear hgx t0
 generalize w.alloc (.cells #[.int .i64 nu,.int .u8 (ki.toNat : Int),.int .i64 (a : Int),.int .i64 (y : Int),.slice Ab bs.length cb,.slice Am ms.length cm] 64) = W at *
 have x0:=X0.cell
 go_wp2
 go_loopw [16] (fun i wr=>∃ (j : Nat),j ≤ ms.length ∧ i = .int .i64 j ∧ ESt By lo R B d (marksS ms j s) w wr ∧ Kp lo W wr) (fun i _=>ms.length - (intOf i).toNat)
 case atStart=>exact ⟨0,by omega,rfl,HE0.out,Kp.refl _ _⟩
 case round=>
  obtain ⟨j,hj,rfl,hE,hK⟩:=hrel
  by_cases hlt : j < ms.length
  · have hmr : RdIn wr By (.sl .int) ms [.slice Am ms.length cm]:=by
     obtain ⟨By',h1,h2,h3,h4,h5,h6⟩:=hE
     exact HM.out.frame h6
    obtain ⟨mb,mo,rfl,m1,m2⟩:=mark_at hmr hlt
    obtain ⟨hq',m3,m4⟩:=HMK.out j hlt
    obtain ⟨k1,k2,k3,k4,k5⟩:=HMS.out j hj
    have hjs : j < (marksS ms j s).1.length:=by rw [k2];exact hq'
    have e1 : (marksS ms j s).1[j] = s.1[j]:=by rw [← getD_lt hjs,k4 j (Nat.le_refl _),getD_lt hq']
    have e2 : ms.getD j 0 = ms[j]:=by rw [List.getD_eq_getElem?_getD,List.getElem?_eq_getElem hlt];rfl
    obtain ⟨mn,hmn⟩ : ∃ mn : Nat,ms[j] = (mn : Int):=⟨(ms[j]).toNat,by omega⟩
    have hPr:=(hK.box _ _ _ P0 (by decide) (by decide) (by decide))
    have HST : Hid (marksS ms (j + 1) s = dropS j mn (marksS ms j s)):=by
     show dropS j (ms.getD j 0).toNat (marksS ms j s) = _
     rw [e2,hmn,Int.toNat_natCast]
    have hrow:=(HOK.out.row hq').2.1
    have hsz:=hE
    have hlr : lo ≤ wr.heap.size:=by have:=hK.below.size;have:=HT0.out.size;have:=HLO.out;omega
    have hPr' : BoxOf wr pb #[.slice (some ⟨R,0,none⟩) (marksS ms j s).1.length cR,.slice B (marksS ms j s).2.length d] 28:=by rw [k2,k3];exact hPr
    have HC:=Lib.hid (sdrop_est hE hlr hPr' k1.fits hjs (many:=mn) (by rw [e1];rw [hmn] at m4;omega))
    have HWJ:=next_wrap HMX.out hlt
    have HLJ:=Lib.hid hlt
    have HKR:=Lib.hid hK
    rw [hmn] at m1
    clear hE hK hmr m2 m3 m4 k1 k2 k3 k4 k5 e1 e2 hmn hPr hPr' hrow hsz hq' hjs hj hlt
    go_wp2_with fail
    refine HC.out.mono ?_
    rintro e w2 ⟨⟨v,rfl⟩,hE2,hK2⟩
    have HE2:=Lib.hid (hE2.cast HST.out.symm)
    have HK2:=Lib.hid (HKR.out.trans hK2)
    clear hE2 hK2 m1
    go_wp2
    go_roundw
    case rel=>exact ⟨j + 1,HLJ.out,by first | exact round_same HWJ | go_num,HE2.out,HK2.out⟩
    case measure=>first | exact round_less HWJ HLJ.out | (have h:=HLJ.out;simp [intOf];omega)
  · have hjl : j = ms.length:=by omega
    have HJL:=Lib.hid hjl
    have hok1:=(HMS.out ms.length (Nat.le_refl _)).1
    have hlen1:=(HMS.out ms.length (Nat.le_refl _)).2.1
    have hlen2:=(HMS.out ms.length (Nat.le_refl _)).2.2.1
    rw [hjl] at hE
    have hX1:=hK.box _ _ _ X0 (by decide) (by decide) (by decide)
    have hP1:=hK.box _ _ _ P0 (by decide) (by decide) (by decide)
    have hPr : BoxOf wr pb #[.slice (some ⟨R,0,none⟩) (marksS ms ms.length s).1.length cR,.slice B (marksS ms ms.length s).2.length d] 28:=by rw [hlen1,hlen2];exact hP1
    have hlr : lo ≤ wr.heap.size:=by have:=hK.below.size;have:=HT0.out.size;have:=HLO.out;omega
    have hbsr : RdIn wr By (.sl .byte) bs [.slice Ab bs.length cb]:=by
     obtain ⟨By',h1,h2,h3,h4,h5,h6⟩:=hE
     exact HD.out.frame h6
    have HA1 : Hid (a + y ≤ (marksS ms ms.length s).1.length):=by show _ ≤ _;rw [hlen1];exact HAY.out.2
    have HOK1:=Lib.hid hok1
    have HE1:=Lib.hid hE
    have HK1:=Lib.hid (HKP.out.trans hK)
    have HPR:=Lib.hid hPr
    have HLR:=Lib.hid hlr
    have HBR:=Lib.hid hbsr
    generalize hs1 : marksS ms ms.length s = s1 at *
    have HS1:=Lib.hid hs1
    clear hs1
    clear hok1 hlen1 hlen2 hE hP1 hlr hbsr hjl hK HMS HES HE0
    have x1:=hX1.cell
    rcases Bool.eq_false_or_eq_true (kWrites (ki.toNat : Int)) with hkw | hkw
    · have HKW:=Lib.hid hkw
      clear hkw
      go_wp2
      clear hlt hj x1 hPr
      go_loopw [4,29] (fun dv i w2=>∃ (q : Nat) (t : Ys × List GoTy.T),q ≤ y ∧ i = .int .i64 q ∧ dv = .slice none 0 0 ∧ Hid (endS (ki.toNat : Int) bs a q s1 = some (t,[])) ∧ ESt By lo R B d t w w2 ∧ BoxOf w2 gx #[.int .i64 nu,.int .u8 (ki.toNat : Int),.int .i64 (a : Int),.int .i64 (y : Int),.slice Ab bs.length cb,.slice Am ms.length cm] 64 ∧ BoxOf w2 pb #[.slice (some ⟨R,0,none⟩) t.1.length cR,.slice B t.2.length d] 28 ∧ Kp lo w w2) (fun _ i _=>y - (intOf i).toNat)
      case atStart=>exact ⟨0,s1,by omega,rfl,rfl,rfl,HE1.out,hX1,HPR.out,HK1.out⟩
      case round=>
       obtain ⟨q,t,hq,rfl,rfl,hen,hEt,hXt,hPt,hKt⟩:=hrel
       clear hX1
       by_cases hqy : q < y
       · obtain ⟨hokt,hlt1,hlt2⟩:=endS_ok HOK1.out HA1.out HBS.out q (by omega) _ hen.out
         have hb : a + q < t.1.length:=by have:=HA1.out;rw [hlt1];omega
         have hlr : lo ≤ wr.heap.size:=by have:=hKt.below.size;have:=HLO.out;omega
         have hbr : RdIn wr By (.sl .byte) bs [.slice Ab bs.length cb]:=by
          obtain ⟨By',h1,h2,h3,h4,h5,h6⟩:=hEt
          exact HD.out.frame h6
         have hsw:=swrites_any By (ki.toNat : Int) (a : Int) (y : Int) bs Ab cb q wr hbr (fun hk=>by have:=HBS.out hk;omega) (by have:=HAY.out.1;omega)
         have HSW:=Lib.hid hsw
         have HWB : Hid (wrap64 ((a : Int) + (q : Int)) = ((a + q : Nat) : Int)):=by
          show _ = _
          have:=HYS.out
          have:=HAY.out.2
          rw [IntWalk.wrap64_in _ (by omega)]
          rfl
         have hwb:=HWB.out
         have HQL:=Lib.hid hqy
         have HEN:=Lib.hid hen
         have HOKT:=Lib.hid hokt
         have HB:=Lib.hid hb
         have HLR2:=Lib.hid hlr
         have HET:=Lib.hid hEt
         have HKT:=Lib.hid hKt
         have xt:=hXt.cell
         have pt:=hPt.cell
         clear hsw hen hokt hlt1 hlt2 hEt hKt hbr hlr
         go_wp2_with fail
         refine HSW.out.mono ?_
         rintro e w2 ⟨⟨D,n,c2,rfl,hbl⟩,b2⟩
         have HV:=Lib.hid (HET.out.val b2 HLR2.out (hbl HKW.out))
         have hXt2:=hXt.next b2
         have hPt2:=hPt.next b2
         have HKT2:=Lib.hid (HKT.out.trans (Kp.of_below b2 HLR2.out))
         have HB2:=Lib.hid b2
         have HLR3 : Hid (lo ≤ w2.heap.size):=Nat.le_trans HLR2.out b2.size
         rw [HKW.out]
         clear hbl b2 xt pt hXt hPt
         go_upto_region 14 with fail
         have b3:=Ext.alloc (Below.refl w2.heap.size w2) (.cells #[.slice D n c2] 29)
         have HV3:=HV.out.next b3 HLR3.out
         obtain ⟨g,o,c,v0,By',v1,v2,v3,v4⟩:=HV3.push hb
         have hR2 : R < w2.heap.size:=by
          obtain ⟨By2,_,_,_,h4,_⟩:=HV.out
          exact h4.lt
         have v5 : w2.cell? ⟨R,a + q,none⟩ = some (.slice (some ⟨g,o,none⟩) (t.1[a + q]'hb).length c):=by
          rw [← v0];exact (b3.cell (p:=⟨R,a + q,none⟩) hR2).symm
         have HZL : Hid ((t.1[a + q]'hb).length ≤ 512):=(HOKT.out.row hb).2.1
         have e0 : t.1.getD (a + q) [] = t.1[a + q]'hb:=getD_lt hb
         have HE0':=Lib.hid e0
         have HV1:=Lib.hid v1
         have HV2:=Lib.hid v2
         have HV3':=Lib.hid v3
         have HV4:=Lib.hid v4
         have HLR4 : Hid (lo ≤ (w2.alloc (.cells #[.slice D n c2] 29)).heap.size):=Nat.le_trans HLR3.out b3.size
         have hXt3:=hXt2.next b3
         have hPt3:=hPt2.next b3
         have HK3:=Lib.hid (HKT2.out.trans (Kp.of_below b3 HLR3.out))
         have hq3 : (w2.alloc (.cells #[.slice D n c2] 29)).cell? ⟨w2.heap.size,0,none⟩ = some (.slice D n c2):=(BoxOf.new w2 #[.slice D n c2] 29).cell 0
         generalize t.1[a + q]'hb = zs at *
         clear v0 v1 v2 v3 v4 e0 HV HV3 hXt2 hPt2 b3 hR2
         go_upto_region 15 with (at_builtin;refine wpList_pushS rfl (.tmp 67) (.tmp 69) 30 rfl il _ Try.underlying30 hil hl0 hl1 hl2 rfl By' lo g o c zs HV1.out rfl w2.heap.size 1 _ rfl hq3 _ HV2.out HV3'.out (by have:=HZL.out;omega) HLR4.out ?_;intro w4 g4 o4 c4 hrow4 hg4 hgr4;obtain ⟨cs4,r4,hb4,hE4,hK4⟩:=HV4.out w4 g4 o4 c4 hrow4 hg4 hgr4;have rf4:=r4.free;have rc4 : w4.cell? ⟨R,a + q,none⟩ = some (cs4[a + q]'hb4):=(by rw [r4.cell,List.getElem?_eq_getElem (by rw [Array.length_toList];exact hb4)];rfl);have HE4:=Lib.hid hE4;have HK4:=Lib.hid (HK3.out.trans hK4);have hXt4:=hK4.box _ _ _ hXt3 (by decide) (by decide) (by decide);have hPt4:=hK4.box _ _ _ hPt3 (by decide) (by decide) (by decide);generalize cs4[a + q]'hb4 = old4 at rc4;clear hE4 hK4 hrow4 hg4 hgr4 r4 hb4 hq3)
         generalize w4.setCell ⟨R,a + q,none⟩ (.slice (some ⟨g4,o4,none⟩) (zs.length + 1) c4) = w5 at *
         clear rf4 rc4 HV1 HV2 HV3' HV4 HLR4 HK3 hXt3 hPt3 v5 HET HKT HKT2
         have hlr5 : lo ≤ w5.heap.size:=by have:=HK4.out.below.size;have:=HLO.out;omega
         have hlp : (pushY (a + q) (blk (ki.toNat : Int) bs q) t.1).length = t.1.length:=List.length_set
         have hbp : a + q < (pushY (a + q) (blk (ki.toNat : Int) bs q) t.1).length:=by rw [hlp];exact hb
         have hgp : (pushY (a + q) (blk (ki.toNat : Int) bs q) t.1)[a + q]'hbp = zs ++ [blk (ki.toNat : Int) bs q]:=by
          have e1 : (pushY (a + q) (blk (ki.toNat : Int) bs q) t.1)[a + q]? = some (t.1.getD (a + q) [] ++ [blk (ki.toNat : Int) bs q]):=List.getElem?_set_self hb
          rw [HE0'.out,List.getElem?_eq_getElem hbp] at e1
          exact Option.some.inj e1
         have x4:=hXt4.cell
         have HWJ:=next_wrap (show y ≤ maxLen by have:=HAY.out.1;unfold maxLen;omega) hqy
         by_cases hk3 : (ki.toNat : Int) = 3
         · have e3 : ((ki.toNat : Int) == 3) = true:=by rw [hk3];rfl
           have hm5 : ∃ g o c,w5.cell? ⟨R,a + q,none⟩ = some (.slice (some ⟨g,o,none⟩) (zs.length + 1) c):=by
            obtain ⟨By2,_,_,_,h4,_⟩:=HE4.out
            obtain ⟨g,o,c,h⟩:=h4.cell hbp
            rw [hgp,List.length_append,List.length_singleton] at h
            exact ⟨g,o,c,h⟩
           obtain ⟨g5,o5,c5,m5⟩:=hm5
           have HDR:=Lib.hid (sdrop_est (cR:=cR) (pb:=pb) (many:=zs.length) HE4.out hlr5 (by rw [show (pushY (a + q) (blk (ki.toNat : Int) bs q) t.1,t.2).1.length = t.1.length from hlp];exact hPt4) ⟨HOKT.out.few,by rw [show (pushY (a + q) (blk (ki.toNat : Int) bs q) t.1,t.2).1.length = t.1.length from hlp];exact HOKT.out.short,by rw [show (pushY (a + q) (blk (ki.toNat : Int) bs q) t.1,t.2).1.length = t.1.length from hlp];exact HOKT.out.fits.2.2⟩ hbp ⟨by rw [show (pushY (a + q) (blk (ki.toNat : Int) bs q) t.1,t.2).1[a + q]'hbp = _ from hgp,List.length_append];omega,by have:=HZL.out;omega⟩)
           have e6 : wrap64 (zs.length : Int) = (zs.length : Int):=by have:=HZL.out;exact IntWalk.wrap64_in _ (by omega)
           have HK3:=Lib.hid hk3
           clear hk3 hgp hbp hlp
           go_wp2_with fail
           refine HDR.out.mono ?_
           rintro e w6 ⟨⟨vv,rfl⟩,hE6,hK6⟩
           have HE6 : Hid (ESt By lo R B d (putS (ki.toNat : Int) (a + q) (blk (ki.toNat : Int) bs q) t) w w6):=by
            refine hE6.cast ?_
            unfold putS
            rw [if_pos HK3.out,HE0'.out]
            congr 1
            rw [List.length_append,List.length_singleton]
            omega
           have hX6:=hK6.box _ _ _ hXt4 (by decide) (by decide) (by decide)
           have hP6:=hK6.box _ _ _ hPt4 (by decide) (by decide) (by decide)
           have HK6:=Lib.hid (HK4.out.trans hK6)
           clear hE6 hK6 x4 m5 hXt4 hPt4 HDR hlr5
           have HLT6 : Hid ((putS (ki.toNat : Int) (a + q) (blk (ki.toNat : Int) bs q) t).1.length = t.1.length ∧ (putS (ki.toNat : Int) (a + q) (blk (ki.toNat : Int) bs q) t).2.length = t.2.length):=putS_len _ _ _ _
           have HST6 : Hid (endS (ki.toNat : Int) bs a (q + 1) s1 = if 512 < ((putS (ki.toNat : Int) (a + q) (blk (ki.toNat : Int) bs q) t).1.getD (a + q) []).length then none else some (putS (ki.toNat : Int) (a + q) (blk (ki.toNat : Int) bs q) t,[])):=by
            show (endS (ki.toNat : Int) bs a q s1).bind (stepS (ki.toNat : Int) bs a q) = _
            rw [HEN.out]
            show stepS (ki.toNat : Int) bs a q (t,[]) = _
            unfold stepS
            rw [if_pos HKW.out]
           generalize putS (ki.toNat : Int) (a + q) (blk (ki.toNat : Int) bs q) t = t6 at *
           have hb6 : a + q < t6.1.length:=by rw [HLT6.out.1];exact HB.out
           have hm6 : ∃ g o c,w6.cell? ⟨R,a + q,none⟩ = some (.slice (some ⟨g,o,none⟩) (t6.1.getD (a + q) []).length c):=by
            obtain ⟨By2,_,_,_,h4,_⟩:=HE6.out
            obtain ⟨g,o,c,h⟩:=h4.cell hb6
            rw [getD_lt hb6]
            exact ⟨g,o,c,h⟩
           obtain ⟨g6,o6,c6,m6⟩:=hm6
           generalize (t6.1.getD (a + q) []).length = L6 at *
           clear hb6
           rcases Bool.eq_false_or_eq_true (decide ((512 : Int) < (L6 : Int))) with e6 | e6
           · have HBIG : Hid (512 < L6):=by have:=of_decide_eq_true e6;show _ < _;omega
             have e6' : decide (512 < L6) = true:=decide_eq_true HBIG.out
             go_wp2
             go_ret2
             refine ⟨.inl ⟨?_,rfl⟩,HK6.out⟩
             rw [HS1.out]
             refine endS_none (i:=q + 1) ?_ y HQL.out
             rw [HST6.out,if_pos HBIG.out]
           · have HSML : Hid (¬ 512 < L6):=by have:=of_decide_eq_false e6;show ¬ _;omega
             have e6' : decide (512 < L6) = false:=decide_eq_false HSML.out
             go_wp2
             have HEQ : Hid (endS (ki.toNat : Int) bs a (q + 1) s1 = some (t6,[])):=by
                  show _ = _
                  rw [HST6.out,if_neg HSML.out]
             go_roundw
             case rel=>exact ⟨q + 1,t6,HQL.out,by first | exact round_same HWJ | go_num,rfl,HEQ,HE6.out,hX6,by rw [HLT6.out.1,HLT6.out.2];exact hP6,HK6.out⟩
             case measure=>first | exact round_less HWJ HQL.out | (have h:=HQL.out;simp [intOf];omega)
         · have e3 : ((ki.toNat : Int) == 3) = false:=by simpa using hk3
           have HE6 : Hid (ESt By lo R B d (putS (ki.toNat : Int) (a + q) (blk (ki.toNat : Int) bs q) t) w w5):=by
            refine HE4.out.cast ?_
            unfold putS
            rw [if_neg hk3]
           have HK3:=Lib.hid hk3
           clear hk3 hgp hbp hlp HE4
           obtain ⟨w6,hw6⟩ : ∃ z : World,z = w5:=⟨_,rfl⟩
           rw [← hw6] at HE6 x4 hXt4 hPt4 HK4 ⊢
           clear hw6
           have hX6:=hXt4
           have hP6:=hPt4
           have HK6:=HK4
           have HLT6 : Hid ((putS (ki.toNat : Int) (a + q) (blk (ki.toNat : Int) bs q) t).1.length = t.1.length ∧ (putS (ki.toNat : Int) (a + q) (blk (ki.toNat : Int) bs q) t).2.length = t.2.length):=putS_len _ _ _ _
           have HST6 : Hid (endS (ki.toNat : Int) bs a (q + 1) s1 = if 512 < ((putS (ki.toNat : Int) (a + q) (blk (ki.toNat : Int) bs q) t).1.getD (a + q) []).length then none else some (putS (ki.toNat : Int) (a + q) (blk (ki.toNat : Int) bs q) t,[])):=by
            show (endS (ki.toNat : Int) bs a q s1).bind (stepS (ki.toNat : Int) bs a q) = _
            rw [HEN.out]
            show stepS (ki.toNat : Int) bs a q (t,[]) = _
            unfold stepS
            rw [if_pos HKW.out]
           generalize putS (ki.toNat : Int) (a + q) (blk (ki.toNat : Int) bs q) t = t6 at *
           have hb6 : a + q < t6.1.length:=by rw [HLT6.out.1];exact HB.out
           have hm6 : ∃ g o c,w6.cell? ⟨R,a + q,none⟩ = some (.slice (some ⟨g,o,none⟩) (t6.1.getD (a + q) []).length c):=by
            obtain ⟨By2,_,_,_,h4,_⟩:=HE6.out
            obtain ⟨g,o,c,h⟩:=h4.cell hb6
            rw [getD_lt hb6]
            exact ⟨g,o,c,h⟩
           obtain ⟨g6,o6,c6,m6⟩:=hm6
           generalize (t6.1.getD (a + q) []).length = L6 at *
           clear hb6
           rcases Bool.eq_false_or_eq_true (decide ((512 : Int) < (L6 : Int))) with e6 | e6
           · have HBIG : Hid (512 < L6):=by have:=of_decide_eq_true e6;show _ < _;omega
             have e6' : decide (512 < L6) = true:=decide_eq_true HBIG.out
             go_wp2
             go_ret2
             refine ⟨.inl ⟨?_,rfl⟩,HK6.out⟩
             rw [HS1.out]
             refine endS_none (i:=q + 1) ?_ y HQL.out
             rw [HST6.out,if_pos HBIG.out]
           · have HSML : Hid (¬ 512 < L6):=by have:=of_decide_eq_false e6;show ¬ _;omega
             have e6' : decide (512 < L6) = false:=decide_eq_false HSML.out
             go_wp2
             have HEQ : Hid (endS (ki.toNat : Int) bs a (q + 1) s1 = some (t6,[])):=by
                  show _ = _
                  rw [HST6.out,if_neg HSML.out]
             go_roundw
             case rel=>exact ⟨q + 1,t6,HQL.out,by first | exact round_same HWJ | go_num,rfl,HEQ,HE6.out,hX6,by rw [HLT6.out.1,HLT6.out.2];exact hP6,HK6.out⟩
             case measure=>first | exact round_less HWJ HQL.out | (have h:=HQL.out;simp [intOf];omega)
       · have hqe : q = y:=by omega
         have HENY : Hid (endS (ki.toNat : Int) bs a y s1 = some (t,[])):=by rw [← hqe];exact hen.out
         have HEY:=Lib.hid hEt
         have HKY:=Lib.hid hKt
         clear hen hEt hXt hPt hKt hqe
         go_wp2
         go_ret2
         exact ⟨.inr ⟨t,[],none,0,by rw [HS1.out];exact HENY.out,rfl,rdin_nilb (by unfold maxLen;omega) _,HEY.out⟩,HKY.out⟩
    · have HKW:=Lib.hid hkw
      clear hkw
      have HRD : Hid (∀ i,endS (ki.toNat : Int) bs a i s1 = some (s1,readS s1 a i)):=fun i=>endS_read HKW.out bs a s1 i
      obtain ⟨iu,hu,hu0,hu1,hu2⟩:=minfo_u8
      obtain ⟨wo,rfl⟩ : ∃ z : World,z = wr:=⟨_,rfl⟩
      go_wp2
      clear hlt hj x1 hPr
      go_loopw [4,29] (fun dv i w2=>∃ (q : Nat),q ≤ y ∧ i = .int .i64 q ∧ Below wo.heap.size wo w2 ∧ w2.ownsRow wo.heap.size 5 1 dv (readS s1 a q).length ((readS s1 a q).map byteV) ∧ Hid ((readS s1 a q).length = 128 * q)) (fun _ i _=>y - (intOf i).toNat)
      case atStart=>exact ⟨0,by omega,rfl,Below.refl _ _,⟨rfl,.inl ⟨rfl,rfl⟩⟩,rfl⟩
      case round=>
       obtain ⟨q,hq,rfl,b2,own2,hrl⟩:=hrel
       by_cases hqy : q < y
       · have hb : a + q < s1.1.length:=by have:=HA1.out;omega
         obtain ⟨r1,r2,r3⟩:=HOK1.out.row hb
         obtain ⟨By2,z1,z2,z3,z4,z5,z6⟩:=HE1.out
         obtain ⟨g,o,c,A',c',m1,m2,m3⟩:=z4.last hb (by omega)
         have hgl : g < wo.heap.size:=block_lt_of_cell m2
         have m4 : wr.cell? ⟨R,a + q,none⟩ = some (.slice (some ⟨g,o,none⟩) (s1.1[a + q]'hb).length c):=(b2.cell (p:=⟨R,a + q,none⟩) z4.lt).trans m1
         have m5 : wr.cell? ⟨g,o + ((s1.1[a + q]'hb).length - 1),none⟩ = some (.slice A' ((s1.1.getD (a + q) []).getLastD []).length c'):=(b2.cell (p:=⟨g,o + ((s1.1[a + q]'hb).length - 1),none⟩) hgl).trans m2
         have HLA:=Lib.hid (m3.below b2)
         have HST : Hid (readS s1 a (q + 1) = readS s1 a q ++ (s1.1.getD (a + q) []).getLastD []):=rfl
         have HL8 : Hid (((s1.1.getD (a + q) []).getLastD []).length = 128):=by
          show _ = _
          rw [getD_lt hb,List.getLastD_eq_getLast?,List.getLast?_eq_getElem?,List.getElem?_eq_getElem (by omega)]
          exact r3 _ _
         generalize (s1.1.getD (a + q) []).getLastD [] = lv at *
         have hbr : RdIn wr By (.sl .byte) bs [.slice Ab bs.length cb]:=HBR.out.below b2
         have hsw:=swrites_any By (ki.toNat : Int) (a : Int) (y : Int) bs Ab cb q wr hbr (fun hk=>by have:=HBS.out hk;omega) (by have:=HAY.out.1;omega)
         have HSW:=Lib.hid hsw
         have hwb : wrap64 ((a : Int) + (q : Int)) = ((a + q : Nat) : Int):=by
          have:=HAY.out.2
          have:=HYS.out
          rw [IntWalk.wrap64_in _ (by omega)]
          rfl
         have HQL:=Lib.hid hqy
         have HN1 : Hid (1 ≤ (s1.1[a + q]'hb).length ∧ (s1.1[a + q]'hb).length ≤ 512):=⟨r1,r2⟩
         clear r1 r2 r3 m3 z1 z2 z3 z4 z5 z6
         generalize (s1.1[a + q]'hb).length = n at *
         have xt:=(hX1.next b2).cell
         have pt:=(HPR.out.next b2).cell
         have HB2:=Lib.hid b2
         have HOW:=Lib.hid own2
         have HM12:=Lib.hid (And.intro m1 m2)
         clear m1 m2
         clear hsw hbr hgl b2 own2
         go_wp2_with fail
         refine HSW.out.mono ?_
         rintro e w2 ⟨⟨D,nn,c2,rfl,hbl⟩,b3⟩
         rw [HKW.out]
         have hR2 : wr.cell? ⟨R,a + q,none⟩ = some (.slice (some ⟨g,o,none⟩) n c):=m4
         have k4 : w2.cell? ⟨R,a + q,none⟩ = some (.slice (some ⟨g,o,none⟩) n c):=(b3.cell (block_lt_of_cell m4)).trans m4
         have k5 : w2.cell? ⟨g,o + (n - 1),none⟩ = some (.slice A' lv.length c'):=(b3.cell (block_lt_of_cell m5)).trans m5
         have HB3:=Lib.hid (Ext.trans HB2.out b3)
         have HOW3:=Lib.hid (own_next HOW.out b3)
         have HLA3:=Lib.hid (HLA.out.below b3)
         clear hbl b3 m4 m5 xt pt hR2 HB2 HOW HLA
         go_upto_region 13 with fail
         have e1 : IntKind.i64.wrap ((n : Int) - 1) = ((n - 1 : Nat) : Int):=by have:=HN1.out;rw [i64_fit (by omega)];omega
         have hn0 : n - 1 < n:=by have:=HN1.out;omega
         have d4 : w2.drew.cell? ⟨R,a + q,none⟩ = some (.slice (some ⟨g,o,none⟩) n c):=k4
         have d5 : w2.drew.cell? ⟨g,o + (n - 1),none⟩ = some (.slice A' lv.length c'):=k5
         refine wp_region_held_drew (S:=fun w'=>w'.cell? ⟨R,a + q,none⟩ = some (.slice (some ⟨g,o,none⟩) n c) ∧ w'.cell? ⟨g,o + (n - 1),none⟩ = some (.slice A' lv.length c')) (by kernel_rfl) ⟨d4,d5⟩ (fun hS=>?_)
         clear k4 k5 d4 d5
         refine wpAnyH_take (i:=0) (v:=?_) rfl (by kernel_rfl) (by kernel_rfl) (by kernel_rfl) (fun _ _ _ h=>h) (Or.inl ⟨by rfl,?_⟩) hS ?_
         rotate_left
         · (intro w hSw;(try dsimp only at hSw);go_simp;(try with_reducible rfl))
         rotate_left
         simp only [Act.put,zq0,zq1,zq2,zq3,zq4,zq5]
         refine wpAnyH_take (i:=1) (v:=?_) rfl (by kernel_rfl) (by kernel_rfl) (by kernel_rfl) (fun _ _ _ h=>h) (Or.inl ⟨by rfl,?_⟩) hS ?_
         rotate_left
         · (intro w hSw;(try dsimp only at hSw);go_simp;(try with_reducible rfl))
         rotate_left
         simp only [Act.put,zq0,zq1,zq2,zq3,zq4,zq5]
         refine wpAnyH_take (i:=2) (v:=?_) rfl (by kernel_rfl) (by kernel_rfl) (by kernel_rfl) (fun _ _ _ h=>h) (Or.inl ⟨by rfl,?_⟩) hS ?_
         rotate_left
         · (intro w hSw;(try dsimp only at hSw);go_simp;(try with_reducible rfl))
         rotate_left
         simp only [Act.put,zq0,zq1,zq2,zq3,zq4,zq5]
         refine wpAnyH_take (i:=3) (v:=?_) rfl (by kernel_rfl) (by kernel_rfl) (by kernel_rfl) (fun _ _ _ h=>h) (Or.inl ⟨by rfl,?_⟩) hS ?_
         rotate_left
         · (intro w hSw;(try dsimp only at hSw);go_simp;(try with_reducible rfl))
         rotate_left
         simp only [Act.put,zq0,zq1,zq2,zq3,zq4,zq5]
         refine wpAnyH_take (i:=4) (v:=?_) rfl (by kernel_rfl) (by kernel_rfl) (by kernel_rfl) (fun _ _ _ h=>h) (Or.inl ⟨by rfl,?_⟩) hS ?_
         rotate_left
         · (intro w hSw;(try dsimp only at hSw);go_simp;(try with_reducible rfl))
         rotate_left
         simp only [Act.put,zq0,zq1,zq2,zq3,zq4,zq5]
         refine wpAnyH_take (i:=5) (v:=?_) rfl (by kernel_rfl) (by kernel_rfl) (by kernel_rfl) (fun _ _ _ h=>h) (Or.inl ⟨by rfl,?_⟩) hS ?_
         rotate_left
         · (intro w hSw;(try dsimp only at hSw);go_simp;(try with_reducible rfl))
         rotate_left
         simp only [Act.put,zq0,zq1,zq2,zq3,zq4,zq5]
         refine wpAnyH_take (i:=6) (v:=?_) rfl (by kernel_rfl) (by kernel_rfl) (by kernel_rfl) (fun _ _ _ h=>h) (Or.inl ⟨by rfl,?_⟩) hS ?_
         rotate_left
         · (intro w hSw;(try dsimp only at hSw);go_simp;(try with_reducible rfl))
         rotate_left
         simp only [Act.put,zq0,zq1,zq2,zq3,zq4,zq5]
         refine wpAnyH_take (i:=7) (v:=?_) rfl (by kernel_rfl) (by kernel_rfl) (by kernel_rfl) (fun _ _ _ h=>h) (Or.inl ⟨by rfl,?_⟩) hS ?_
         rotate_left
         · (intro w hSw;(try dsimp only at hSw);go_simp;(try with_reducible rfl))
         rotate_left
         simp only [Act.put,zq0,zq1,zq2,zq3,zq4,zq5]
         refine wpAnyH_take (i:=8) (v:=?_) rfl (by kernel_rfl) (by kernel_rfl) (by kernel_rfl) (fun _ _ _ h=>h) (Or.inl ⟨by rfl,?_⟩) hS ?_
         rotate_left
         · (intro w hSw;(try dsimp only at hSw);go_simp;(try with_reducible rfl))
         rotate_left
         simp only [Act.put,zq0,zq1,zq2,zq3,zq4,zq5]
         refine wpAnyH_take (i:=9) (v:=?_) rfl (by kernel_rfl) (by kernel_rfl) (by kernel_rfl) (fun _ _ _ h=>h) (Or.inl ⟨by rfl,?_⟩) hS ?_
         rotate_left
         · (intro w hSw;(try dsimp only at hSw);go_simp;(try with_reducible rfl))
         rotate_left
         simp only [Act.put,zq0,zq1,zq2,zq3,zq4,zq5]
         refine wpAnyH_take (i:=10) (v:=?_) rfl (by kernel_rfl) (by kernel_rfl) (by kernel_rfl) (fun _ _ _ h=>h) (Or.inl ⟨by rfl,?_⟩) hS ?_
         rotate_left
         · (intro w hSw;(try dsimp only at hSw);go_simp;(try with_reducible rfl))
         rotate_left
         simp only [Act.put,zq0,zq1,zq2,zq3,zq4,zq5]
         refine wpAnyH_ready (rs:=[11]) (by kernel_rfl) (by simp) ?_
         refine AllReadyH.cons rfl (fun K hK=>?_) AllReadyH.nil
         rw [if_pos (by rfl)]
         refine wp_append_rd _ (.tmp 52) (.tmp 62) 29 rfl wo.heap.size 5 iu _ 1 1 Try.underlying29 hu hu0 hu1 hu2 rfl (by decide) _ (readS s1 a q).length ((readS s1 a q).map byteV) rfl (own_next HOW3.out (Ext.drew (Below.refl _ _))) A' lv.length c' (lv.map byteV) rfl (by simp) (HLA3.out.bytes_bs.below (Ext.drew (Below.refl _ _))).2 (byteV_one _) (by have:=HAY.out.1;have:=HQL.out;have:=hrl.out;have:=HL8.out;unfold maxLen;omega) (by have:=HAY.out.1;have:=HQL.out;have:=hrl.out;have:=HL8.out;omega) (HB3.out.size) ?_
         intro dv' w4 hown4 hgr4 hat4
         have b4 : Below wo.heap.size wo w4:=Below.grown (Ext.drew HB3.out) hgr4 HB3.out.size (fun k e=>own_block HOW3.out e)
         refine hK.out _ _ ⟨(b4.cell (block_lt_of_cell HM12.out.1)).trans HM12.out.1,(b4.cell (block_lt_of_cell HM12.out.2)).trans HM12.out.2⟩ (fun hS'=>?_)
         clear hK K hS
         have hS:=hS'
         clear hS'
         try simp only [Act.put,zq0,zq1,zq2,zq3,zq4,zq5]
         refine wpAnyH_take (i:=12) (v:=?_) rfl (by kernel_rfl) (by kernel_rfl) (by kernel_rfl) (fun _ _ _ h=>h) (Or.inl ⟨by rfl,?_⟩) hS ?_
         rotate_left
         · (intro w hSw;(try dsimp only at hSw);go_simp;(try with_reducible rfl))
         rotate_left
         simp only [Act.put,zq0,zq1,zq2,zq3,zq4,zq5]
         refine wpAnyH_done (by kernel_rfl) ?_ _
         have HOWN : Hid (w4.ownsRow wo.heap.size 5 1 dv' (readS s1 a (q + 1)).length ((readS s1 a (q + 1)).map byteV)):=by
          show World.ownsRow _ _ _ _ _ _ _
          rw [HST.out,List.length_append,List.map_append]
          exact hown4
         have HRL : Hid ((readS s1 a (q + 1)).length = 128 * (q + 1)):=by
          show _ = _
          rw [HST.out,List.length_append,hrl.out,HL8.out]
          omega
         have HWJ:=next_wrap (show y ≤ maxLen by have:=HAY.out.1;unfold maxLen;omega) HQL.out
         have HB4:=Lib.hid b4
         clear hown4 hgr4 hat4 b4 hS e1 hn0 hwb
         go_wp2
         go_roundw
         case rel=>exact ⟨q + 1,HQL.out,by first | exact round_same HWJ | go_num,HB4.out,HOWN.out,HRL⟩
         case measure=>first | exact round_less HWJ HQL.out | (have h:=HQL.out;simp [intOf];omega)
       · have hqe : q = y:=by omega
         obtain ⟨DD,dq,hdv⟩:=own_form own2
         subst hdv
         have HRN : Hid (RdIn wr (NewB lo wr) (.sl .byte) (readS s1 a y) [.slice DD (readS s1 a y).length dq]):=by
          have h1:=OwnL.bytes_rdin (OwnL.of_bytes own2) (by have:=hrl.out;have:=HAY.out.1;omega)
          rw [hqe] at h1
          exact h1.mono fun b hb=>⟨by have:=hb.1;have:=HLR.out;omega,hb.2⟩
         rw [hqe]
         have HB4:=Lib.hid b2
         clear own2 b2 hrl
         go_wp2
         go_ret2
         exact ⟨.inr ⟨s1,readS s1 a y,DD,dq,by rw [HS1.out];exact HRD.out y,rfl,HRN.out,HE1.out.next HB4.out HLR.out⟩,HK1.out.trans (Kp.of_below HB4.out HLR.out)⟩
end Go.Proofs.Ytclbihcggjjgaaa
namespace Go.Proofs.Ytclbihcggjjgaaa
open Go Go.RowKit
set_option linter.unusedSimpArgs false
set_option linter.unusedVariables false
theorem box_self2 {w : World} {k : Nat} {a b : Value} {t : TypeId} (h : BoxOf w k #[a,b] t) (u v : Value) : BoxOf ((w.setCell ⟨k,0,none⟩ u).setCell ⟨k,1,none⟩ v) k #[u,v] t:=mbox_self (mbox_self h 0 u) 1 v
theorem DropIs.box1 {By : Nat → Prop} {lo R : Nat} {B : Option Addr} {d : Nat} {ys : Ys} {gs : List GoTy.T} {w w' : World} (h : DropIs By lo R B d ys gs w w') {k : Nat} {cs : Array Value} (hb : BoxOf w' k cs 28) (hk : w.heap.size ≤ k) (hlo : lo ≤ w.heap.size) (hBy : ∀ b,By b → b < w.heap.size) (i : Nat) (u : Value) : DropIs By lo R B d ys gs w (w'.setCell ⟨k,i,none⟩ u):=by
 have hB : ∀ b,By b → (w'.setCell ⟨k,i,none⟩ u).heap[b]? = w'.heap[b]?:=fun b hB=>Below.heap_setCell _ _ _ _ (show b ≠ k by have:=hBy b hB;omega)
 refine ⟨⟨Below.setCell (p:=⟨k,i,none⟩) h.1.below (by show lo ≤ k;omega) u,fun b cs' t h1 h2 h3 h4=>mbox_else (h.1.box b cs' t h1 h2 h3 h4) (show b ≠ k by have:=h1.lt;omega) i u⟩,h.2.1.but (by decide) (by decide) (But.setCell hb u) hB,h.2.2.1.but (by decide) (by decide) (But.setCell hb u) hB (fun _ h=>h) (fun _ _ h=>h),fun b hB'=>(hB b hB').trans (h.2.2.2 b hB')⟩
theorem DropIs.box {By : Nat → Prop} {lo R : Nat} {B : Option Addr} {d : Nat} {ys : Ys} {gs : List GoTy.T} {w w' : World} (h : DropIs By lo R B d ys gs w w') {k : Nat} {cs : Array Value} (hb : BoxOf w' k cs 28) (hk : w.heap.size ≤ k) (hlo : lo ≤ w.heap.size) (hBy : ∀ b,By b → b < w.heap.size) (u v : Value) : DropIs By lo R B d ys gs w ((w'.setCell ⟨k,0,none⟩ u).setCell ⟨k,1,none⟩ v):=
 (h.box1 hb hk hlo hBy 0 u).box1 (mbox_self hb 0 u) hk hlo hBy 1 v
theorem cut_mid {By : Nat → Prop} {lo R : Nat} {B : Option Addr} {d : Nat} {ys : Ys} {gs : List GoTy.T} {b many : Nat} {w : World} (hM : MayS w By lo R ys) (hG : GoS w By lo B d gs) (hBy : ∀ b,By b → b < w.heap.size) (hb : b < ys.length) (hm : many < (ys[b]).length) :
 ∃ g o c,w.cell? ⟨R,b,none⟩ = some (.slice (some ⟨g,o,none⟩) (ys[b]).length c) ∧ ((ys[b]).length ≤ c ∧ c ≤ maxLen) ∧ ∃ cs : Array Value,BoxOf w R cs 30 ∧ b < cs.size ∧ DropIs By lo R B d (dropY b many ys) gs w (w.setCell ⟨R,b,none⟩ (.slice (some ⟨g,o + many,none⟩) ((ys[b]).length - many) (c - many))):=by
 obtain ⟨cells,g,o,c,q1,q2,q3,q4,q5⟩:=hM.row hb
 obtain ⟨cur,k1,k2,k3,k4,k5,k6⟩:=q4
 have hgR : g ≠ R:=box_diff k1 q1 (by decide)
 have hbc : b < cells.size:=by have:=(List.getElem?_eq_some_iff.1 q3).1;rwa [Array.length_toList] at this
 have hB2 : ∀ k,By k → (w.setCell ⟨R,b,none⟩ (.slice (some ⟨g,o + many,none⟩) ((ys[b]).length - many) (c - many))).heap[k]? = w.heap[k]?:=fun k hk=>Below.heap_setCell _ _ _ _ (fun e=>q2.2 (by have e' : k = R:=e;exact e' ▸ hk))
 refine ⟨g,o,c,by rw [q1.cell];exact q3,⟨k2,k3⟩,cells,q1,hbc,Kp.of_but (Below.setCell (p:=⟨R,b,none⟩) (Below.refl _ _) q2.1 _) (But.setCell q1 _) (.inl rfl),?_,?_,hB2⟩
 · have hl : (((ys[b]).drop many).length) = (ys[b]).length - many:=List.length_drop
   have e1 : dropY b many ys = ys.set b ((ys[b]).drop many):=by unfold dropY;rw [getD_lt hb]
   rw [e1]
   refine q5 _ By g (o + many) (c - many) ((ys[b]).drop many) (fun k hk h1 h2=>Below.heap_setCell _ _ _ _ h1) ?_ ?_ (.inl rfl) (fun k hk=>⟨hBy k hk,hk⟩) (fun k _ h=>h)
   · rw [hl]
     exact mbox_self q1 b _
   · refine ⟨cur,mbox_else k1 hgR b _,by rw [hl];omega,by omega,by omega,k5,fun k hk=>?_⟩
     rw [hl] at hk
     obtain ⟨u,h1,h2⟩:=k6 (many + k) (by omega)
     refine ⟨u,?_,?_⟩
     · rw [Nat.add_assoc]
       exact h1
     · rw [List.getElem_drop]
       exact h2.frame hB2
 · exact hG.but (t:=30) (by decide) (by decide) (But.setCell q1 _) hB2 (fun _ h=>h) (fun _ _ h=>h)
set_option maxRecDepth 100000 in
set_option maxHeartbeats 400000 in
theorem rwithout_any (By : Nat → Prop) (lo R cR : Nat) (B : Option Addr) (d : Nat) (ys : Ys) (gs : List GoTy.T) (b many : Nat) (w : World) (hM : MayS w By lo R ys) (hG : GoS w By lo B d gs) (hBy : ∀ b,By b → b < w.heap.size) (hlo : lo ≤ w.heap.size) (hb : b < ys.length) (hm : many < (ys[b]).length ∧ many ≤ 1000)
 (hmk : ∀ j (h : j < gs.length),(mksOf gs[j] = [] ∨ (mksOf gs[j]).length = ys.length) ∧ ∀ q (h' : q < (mksOf gs[j]).length),0 ≤ (mksOf gs[j])[q] ∧ (mksOf gs[j])[q] ≤ 1000) (hgl : gs.length ≤ 8) :
 Calls Try.prog 84 #[.agg #[.slice (some ⟨R,0,none⟩) ys.length cR,.slice B gs.length d],.int .i64 (b : Int),.int .i64 (many : Int)] w fun e w'=>e = .returned (.agg #[.slice (some ⟨R,0,none⟩) ys.length cR,.slice B gs.length d]) ∧ DropIs By lo R B d (dropY b many ys) (dropG b many gs) w w':=by
 have P0:=BoxOf.alloc (BoxOf.new w #[.slice (some ⟨R,0,none⟩) ys.length cR,.slice B gs.length d] 28) (.cells #[.slice none 0 0,.slice none 0 0] 28)
 have Z0:=BoxOf.new' (w.alloc (.cells #[.slice (some ⟨R,0,none⟩) ys.length cR,.slice B gs.length d] 28)) (w.heap.size + 1) #[.slice none 0 0,.slice none 0 0] 28 (by simp)
 have t0:=Ext.alloc (Ext.alloc (Below.refl w.heap.size w) (.cells #[.slice (some ⟨R,0,none⟩) ys.length cR,.slice B gs.length d] 28)) (.cells #[.slice none 0 0,.slice none 0 0] 28)
 have HD0:=Lib.hid (DropIs.next (⟨Kp.refl lo w,hM,hG,fun _ _=>rfl⟩ : DropIs By lo R B d ys gs w w) t0 hlo hBy)
 have HMK:=Lib.hid hmk
 have HM2:=Lib.hid hm
 have HB2:=Lib.hid hBy
 have HGL:=Lib.hid hgl
 have HLO:=Lib.hid hlo
 have HBL:=Lib.hid hb
 clear hM hG hmk hm hBy hgl hlo
 go_enter Try.func84,Try.ntmps84
 go_upto_region 1 with fail
 have HWW : Hid (w.heap.size + 1 < ((w.alloc (.cells #[.slice (some ⟨R,0,none⟩) ys.length cR,.slice B gs.length d] 28)).alloc (.cells #[.slice none 0 0,.slice none 0 0] 28)).heap.size):=Z0.lt
 generalize (w.alloc (.cells #[.slice (some ⟨R,0,none⟩) ys.length cR,.slice B gs.length d] 28)).alloc (.cells #[.slice none 0 0,.slice none 0 0] 28) = W at *
 have HDd:=HD0.out.next (Ext.drew (Below.refl W.heap.size W)) HLO.out HB2.out
 obtain ⟨g,o,c,q1,q2,cs,q3,q4,q5⟩:=cut_mid HDd.2.1 HDd.2.2.1 (fun k hk=>Nat.lt_of_lt_of_le (HB2.out k hk) t0.size) hb HM2.out.1
 obtain ⟨n,hn⟩ : ∃ n,n = (ys[b]'hb).length:=⟨_,rfl⟩
 rw [← hn] at q1 q2 q5
 have hmn : many < n:=by rw [hn];exact HM2.out.1
 have HDR2:=Lib.hid (HDd.step q5)
 have HQ3:=Lib.hid q3
 have r3f:=q3.free
 have PD:=P0.drew
 have ZD:=Z0.drew
 have hwR : w.heap.size ≠ R:=box_diff P0.drew q3 (by decide)
 have hzR : w.heap.size + 1 ≠ R:=box_diff Z0.drew q3 (by decide)
 have HPW:=Lib.hid (mbox_else PD hwR b (.slice (some ⟨g,o + many,none⟩) (n - many) (c - many)))
 have HZW:=Lib.hid (mbox_else ZD hzR b (.slice (some ⟨g,o + many,none⟩) (n - many) (c - many)))
 have h1 : many ≤ n:=by omega
 have h2 : n ≤ c:=q2.1
 have h3 : ¬ c = many:=by omega
 have q1d : W.drew.cell? ⟨R,b,none⟩ = some (.slice (some ⟨g,o,none⟩) n c):=q1
 have hbb : (b : Int) < (ys.length : Int):=by omega
 clear q1 q2 q3 q4 q5 hn
 refine wp_region_held_drew (S:=fun w'=>(∀ p,w'.cell? ⟨w.heap.size,p,none⟩ = (#[.slice (some ⟨R,0,none⟩) ys.length cR,.slice B gs.length d] : Array Value).toList[p]?)) (by kernel_rfl) PD.cell (fun hS=>?_)
 clear t0 P0 Z0 HD0 HQ3 HDd
 generalize W.drew = wd at *
 refine wpAnyH_take (i:=0) (v:=?_) rfl (by kernel_rfl) (by kernel_rfl) (by kernel_rfl) (fun _ _ _ h=>h) (Or.inl ⟨by rfl,?_⟩) hS ?_
 rotate_left
 · (intro w hSw;(try dsimp only at hSw);go_simp;(try with_reducible rfl))
 rotate_left
 simp only [Act.put,zq0,zq1,zq2,zq3,zq4,zq5]
 refine wpAnyH_take (i:=1) (v:=?_) rfl (by kernel_rfl) (by kernel_rfl) (by kernel_rfl) (fun _ _ _ h=>h) (Or.inl ⟨by rfl,?_⟩) hS ?_
 rotate_left
 · (intro w hSw;(try dsimp only at hSw);go_simp;(try with_reducible rfl))
 rotate_left
 simp only [Act.put,zq0,zq1,zq2,zq3,zq4,zq5]
 refine wpAnyH_take (i:=2) (v:=?_) rfl (by kernel_rfl) (by kernel_rfl) (by kernel_rfl) (fun _ _ _ h=>h) (Or.inl ⟨by rfl,?_⟩) hS ?_
 rotate_left
 · (intro w hSw;(try dsimp only at hSw);go_simp;(try with_reducible rfl))
 rotate_left
 simp only [Act.put,zq0,zq1,zq2,zq3,zq4,zq5]
 refine wpAnyH_take (i:=3) (v:=?_) rfl (by kernel_rfl) (by kernel_rfl) (by kernel_rfl) (fun _ _ _ h=>h) (Or.inl ⟨by rfl,?_⟩) hS ?_
 rotate_left
 · (intro w hSw;(try dsimp only at hSw);go_simp;(try with_reducible rfl))
 rotate_left
 simp only [Act.put,zq0,zq1,zq2,zq3,zq4,zq5]
 refine wpAnyH_take (i:=4) (v:=?_) rfl (by kernel_rfl) (by kernel_rfl) (by kernel_rfl) (fun _ _ _ h=>h) (Or.inl ⟨by rfl,?_⟩) hS ?_
 rotate_left
 · (intro w hSw;(try dsimp only at hSw);go_simp;(try with_reducible rfl))
 rotate_left
 simp only [Act.put,zq0,zq1,zq2,zq3,zq4,zq5]
 refine wpAnyH_take (i:=5) (v:=?_) rfl (by kernel_rfl) (by kernel_rfl) (by kernel_rfl) (fun _ _ _ h=>h) (Or.inl ⟨by rfl,?_⟩) hS ?_
 rotate_left
 · (intro w hSw;(try dsimp only at hSw);go_simp;(try with_reducible rfl))
 rotate_left
 simp only [Act.put,zq0,zq1,zq2,zq3,zq4,zq5]
 refine wpAnyH_take (i:=6) (v:=?_) rfl (by kernel_rfl) (by kernel_rfl) (by kernel_rfl) (fun _ _ _ h=>h) (Or.inl ⟨by rfl,?_⟩) hS ?_
 rotate_left
 · (intro w hSw;(try dsimp only at hSw);go_simp;(try with_reducible rfl))
 rotate_left
 simp only [Act.put,zq0,zq1,zq2,zq3,zq4,zq5]
 refine wpAnyH_take (i:=8) (v:=?_) rfl (by kernel_rfl) (by kernel_rfl) (by kernel_rfl) (fun _ _ _ h=>h) (Or.inl ⟨by rfl,?_⟩) hS ?_
 rotate_left
 · (intro w hSw;(try dsimp only at hSw);go_simp;(try with_reducible rfl))
 rotate_left
 simp only [Act.put,zq0,zq1,zq2,zq3,zq4,zq5]
 refine wpAnyH_ready (rs:=[7]) (by kernel_rfl) (by simp) ?_
 refine AllReadyH.cons rfl (fun K hK=>?_) AllReadyH.nil
 rw [if_pos (by rfl)]
 go_simp
 refine hK.out _ _ hS (fun hS'=>?_)
 clear hK K hS
 have hS:=hS'
 clear hS'
 try simp only [Act.put,zq0,zq1,zq2,zq3,zq4,zq5]
 refine wpAnyH_take (i:=9) (v:=?_) rfl (by kernel_rfl) (by kernel_rfl) (by kernel_rfl) (fun _ _ _ h=>h) (Or.inl ⟨by rfl,?_⟩) hS ?_
 rotate_left
 · (intro w hSw;(try dsimp only at hSw);go_simp;(try with_reducible rfl))
 rotate_left
 simp only [Act.put,zq0,zq1,zq2,zq3,zq4,zq5]
 refine wpAnyH_take (i:=10) (v:=?_) rfl (by kernel_rfl) (by kernel_rfl) (by kernel_rfl) (fun _ _ _ h=>h) (Or.inl ⟨by rfl,?_⟩) hS ?_
 rotate_left
 · (intro w hSw;(try dsimp only at hSw);go_simp;(try with_reducible rfl))
 rotate_left
 simp only [Act.put,zq0,zq1,zq2,zq3,zq4,zq5]
 refine wpAnyH_ready (rs:=[11]) (by kernel_rfl) (by simp) ?_
 refine AllReadyH.cons rfl (fun K hK=>?_) AllReadyH.nil
 rw [if_pos (by rfl)]
 go_simp
 refine hK.out _ _ HPW.out.cell (fun hS'=>?_)
 clear hK K hS hS'
 try simp only [Act.put,zq0,zq1,zq2,zq3,zq4,zq5]
 refine wpAnyH_done (by kernel_rfl) ?_ _
 clear PD ZD r3f q1d h1 h2 h3 hmn
 generalize wd.setCell ⟨R,b,none⟩ (.slice (some ⟨g,o + many,none⟩) (n - many) (c - many)) = w2 at *
 have hp2:=HPW.out.cell
 go_wp2
 clear hp2
 go_loopw [7] (fun i wr=>∃ (j : Nat),j ≤ gs.length ∧ i = .int .i64 j ∧ BoxOf wr w.heap.size #[.slice (some ⟨R,0,none⟩) ys.length cR,.slice B gs.length d] 28 ∧ BoxOf wr (w.heap.size + 1) #[.slice none 0 0,.slice none 0 0] 28 ∧ DropIs By lo R B d (dropY b many ys) (dropJ b many j gs) w wr) (fun i _=>gs.length - (intOf i).toNat)
 case atStart=>exact ⟨0,by omega,rfl,HPW.out,HZW.out,HDR2.out⟩
 case round=>
  obtain ⟨j,hj,rfl,P4,Z4,hDr⟩:=hrel
  have p4:=P4.cell
  by_cases hlt : j < gs.length
  · have hlj : j < (dropJ b many j gs).length:=by rw [dropJ_len];exact hlt
    obtain ⟨G,go,gcells,Ab,cb,Am,cm,rfl,g1,⟨c0,c1,c2,c3,c4,c5⟩,g2,g3,g4,g5,g6⟩:=hDr.2.2.1.mark hlj
    rw [dropJ_at hlt] at c0 c1 c2 c3 c4 c5 g2 g3 g4 g5 g6
    have HSTEP:=Lib.hid (dropJ_step (b:=b) (many:=many) hlt)
    have HMJ:=Lib.hid (HMK.out j hlt)
    generalize hgj : gs[j] = gj at *
    have HGJ:=Lib.hid hgj
    have HDR:=Lib.hid hDr
    have HG6:=Lib.hid g6
    have HWJ:=next_wrap (show gs.length ≤ maxLen by have:=HGL.out;unfold maxLen;omega) hlt
    have HLJ:=Lib.hid hlt
    clear c0 c1 c2 c3 c4 g1 g2 g3 g4 g5 g6 hgj hDr hj hlj
    rcases Nat.eq_zero_or_pos (mksOf gj).length with hz | hz
    · have HZ:=Lib.hid hz
      have e0 : decide ((0 : Int) < ((mksOf gj).length : Int)) = false:=by rw [hz];rfl
      rw [hz] at c5
      clear hz
      have HP5:=Lib.hid P4
      have HZ5:=Lib.hid Z4
      clear P4 Z4
      go_wp2
      go_roundw
      case rel=>
       refine ⟨j + 1,HLJ.out,by first | exact round_same HWJ | go_num,HP5.out,HZ5.out,HDR.out.cast ?_⟩
       rw [HSTEP.out,dropMk_skip HZ.out]
       have h1:=dropJ_at (b:=b) (many:=many) HLJ.out (by rw [dropJ_len];exact HLJ.out)
       rw [HGJ.out] at h1
       rw [← h1,List.set_getElem_self]
      case measure=>first | exact round_less HWJ HLJ.out | (have h:=HLJ.out;simp [intOf];omega)
    · obtain ⟨mb,oo,mcur,rfl,m1,m2,m3,m4⟩:=HG6.out hz
      have hbl : b < (mksOf gj).length:=by
       rcases HMJ.out.1 with h | h
       · rw [h] at hz;simp at hz
       · rw [h];exact HBL.out
      have hm5:=HMJ.out.2 b hbl
      have m7:=m3 b hbl
      have HM4:=Lib.hid m4
      have HM1:=Lib.hid m1
      have HM22:=Lib.hid m2
      have e0 : decide ((0 : Int) < ((mksOf gj).length : Int)) = true:=decide_eq_true (by omega)
      have HBB:=Lib.hid hbl
      generalize hmv : (mksOf gj)[b] = mv at *
      have HMV:=Lib.hid hmv
      have HM5:=Lib.hid hm5
      have e1 : IntKind.i64.wrap (mv - (many : Int)) = mv - (many : Int):=i64_fit (by have:=HM2.out;omega)
      clear hmv m1 m2 m3 m4 hz
      go_upto_region 6 with fail
      have Pd:=P4.drew
      have Zd:=Z4.drew
      have c5d : wr.drew.cell? ⟨G,go + j * 6 + 5,none⟩ = some (.slice (some ⟨mb,oo,none⟩) (mksOf gj).length cm):=c5
      have m8 : wr.drew.cell? ⟨mb,oo + b,none⟩ = some (.int .i64 mv):=m7
      have hGm : G ≠ mb:=fun e=>by
       obtain ⟨_,_,gc,_,_,_,_,e1,g1,_⟩:=HDR.out.2.2.1.mark (show j < (dropJ b many j gs).length by rw [dropJ_len];exact HLJ.out)
       injection e1 with e1
       injection e1 with e1 _
       rw [← e1,e] at g1
       exact box_diff g1 HM1.out (by decide) rfl
      refine wp_region_held_drew (S:=fun w'=>(∀ o,w'.cell? ⟨w.heap.size,o,none⟩ = (#[.slice (some ⟨R,0,none⟩) ys.length cR,.slice (some ⟨G,go,none⟩) gs.length d] : Array Value).toList[o]?) ∧ w'.cell? ⟨G,go + j * 6 + 5,none⟩ = some (.slice (some ⟨mb,oo,none⟩) (mksOf gj).length cm)) (by kernel_rfl) ⟨Pd.cell,c5d⟩ (fun hS=>?_)
      have HDD:=Lib.hid (HDR.out.next (Ext.drew (Below.refl wr.heap.size wr)) HLO.out HB2.out)
      have HM1D:=Lib.hid HM1.out.drew
      have hs:=HDR.out.1.below.size
      have hgo:=Lib.hid (HM4.out wr.drew b (max 0 (mv - (many : Int))) (Ext.drew (Below.refl wr.heap.size wr)) (fun k hk=>Nat.lt_of_lt_of_le (HB2.out k hk) hs) HBB.out (by have:=HM2.out;have:=HM5.out;constructor <;> omega))
      clear p4 m7 c5 HDR HM4 P4 Z4 hs HM1
      generalize wr.drew = wd at *
      refine wpAnyH_take (i:=0) (v:=?_) rfl (by kernel_rfl) (by kernel_rfl) (by kernel_rfl) (fun _ _ _ h=>h) (Or.inl ⟨by rfl,?_⟩) hS ?_
      rotate_left
      · (intro w hSw;(try dsimp only at hSw);go_simp;(try with_reducible rfl))
      rotate_left
      simp only [Act.put,zq0,zq1,zq2,zq3,zq4,zq5]
      refine wpAnyH_take (i:=1) (v:=?_) rfl (by kernel_rfl) (by kernel_rfl) (by kernel_rfl) (fun _ _ _ h=>h) (Or.inl ⟨by rfl,?_⟩) hS ?_
      rotate_left
      · (intro w hSw;(try dsimp only at hSw);go_simp;(try with_reducible rfl))
      rotate_left
      simp only [Act.put,zq0,zq1,zq2,zq3,zq4,zq5]
      refine wpAnyH_take (i:=2) (v:=?_) rfl (by kernel_rfl) (by kernel_rfl) (by kernel_rfl) (fun _ _ _ h=>h) (Or.inl ⟨by rfl,?_⟩) hS ?_
      rotate_left
      · (intro w hSw;(try dsimp only at hSw);go_simp;(try with_reducible rfl))
      rotate_left
      simp only [Act.put,zq0,zq1,zq2,zq3,zq4,zq5]
      refine wpAnyH_take (i:=3) (v:=?_) rfl (by kernel_rfl) (by kernel_rfl) (by kernel_rfl) (fun _ _ _ h=>h) (Or.inl ⟨by rfl,?_⟩) hS ?_
      rotate_left
      · (intro w hSw;(try dsimp only at hSw);go_simp;(try with_reducible rfl))
      rotate_left
      simp only [Act.put,zq0,zq1,zq2,zq3,zq4,zq5]
      refine wpAnyH_take (i:=4) (v:=?_) rfl (by kernel_rfl) (by kernel_rfl) (by kernel_rfl) (fun _ _ _ h=>h) (Or.inl ⟨by rfl,?_⟩) hS ?_
      rotate_left
      · (intro w hSw;(try dsimp only at hSw);go_simp;(try with_reducible rfl))
      rotate_left
      simp only [Act.put,zq0,zq1,zq2,zq3,zq4,zq5]
      refine wpAnyH_take (i:=5) (v:=?_) rfl (by kernel_rfl) (by kernel_rfl) (by kernel_rfl) (fun _ _ _ h=>h) (Or.inl ⟨by rfl,?_⟩) hS ?_
      rotate_left
      · (intro w hSw;(try dsimp only at hSw);go_simp;(try with_reducible rfl))
      rotate_left
      simp only [Act.put,zq0,zq1,zq2,zq3,zq4,zq5]
      refine wpAnyH_take (i:=6) (v:=?_) rfl (by kernel_rfl) (by kernel_rfl) (by kernel_rfl) (fun _ _ _ h=>h) (Or.inl ⟨by rfl,?_⟩) hS ?_
      rotate_left
      · (intro w hSw;(try dsimp only at hSw);go_simp;(try with_reducible rfl))
      rotate_left
      simp only [Act.put,zq0,zq1,zq2,zq3,zq4,zq5]
      refine wpAnyH_take (i:=7) (v:=?_) rfl (by kernel_rfl) (by kernel_rfl) (by kernel_rfl) (fun _ _ _ h=>h) (Or.inl ⟨by rfl,?_⟩) hS ?_
      rotate_left
      · (intro w hSw;(try dsimp only at hSw);go_simp;(try with_reducible rfl))
      rotate_left
      simp only [Act.put,zq0,zq1,zq2,zq3,zq4,zq5]
      refine wpAnyH_take (i:=8) (v:=?_) rfl (by kernel_rfl) (by kernel_rfl) (by kernel_rfl) (fun _ _ _ h=>h) (Or.inl ⟨by rfl,?_⟩) hS ?_
      rotate_left
      · (intro w hSw;(try dsimp only at hSw);go_simp;(try with_reducible rfl))
      rotate_left
      simp only [Act.put,zq0,zq1,zq2,zq3,zq4,zq5]
      refine wpAnyH_take (i:=9) (v:=?_) rfl (by kernel_rfl) (by kernel_rfl) (by kernel_rfl) (fun _ _ _ h=>h) (Or.inl ⟨by rfl,?_⟩) hS ?_
      rotate_left
      · (intro w hSw;(try dsimp only at hSw);go_simp;(try with_reducible rfl))
      rotate_left
      simp only [Act.put,zq0,zq1,zq2,zq3,zq4,zq5]
      refine wpAnyH_take (i:=10) (v:=?_) rfl (by kernel_rfl) (by kernel_rfl) (by kernel_rfl) (fun _ _ _ h=>h) (Or.inl ⟨by rfl,?_⟩) hS ?_
      rotate_left
      · (intro w hSw;(try dsimp only at hSw);go_simp;(try with_reducible rfl))
      rotate_left
      simp only [Act.put,zq0,zq1,zq2,zq3,zq4,zq5]
      refine wpAnyH_take (i:=11) (v:=?_) rfl (by kernel_rfl) (by kernel_rfl) (by kernel_rfl) (fun _ _ _ h=>h) (Or.inl ⟨by rfl,?_⟩) hS ?_
      rotate_left
      · (intro w hSw;(try dsimp only at hSw);go_simp;(try with_reducible rfl))
      rotate_left
      simp only [Act.put,zq0,zq1,zq2,zq3,zq4,zq5]
      refine wpAnyH_take (i:=12) (v:=?_) rfl (by kernel_rfl) (by kernel_rfl) (by kernel_rfl) (fun _ _ _ h=>h) (Or.inl ⟨by rfl,?_⟩) hS ?_
      rotate_left
      · (intro w hSw;(try dsimp only at hSw);go_simp;(try with_reducible rfl))
      rotate_left
      simp only [Act.put,zq0,zq1,zq2,zq3,zq4,zq5]
      refine wpAnyH_take (i:=13) (v:=?_) rfl (by kernel_rfl) (by kernel_rfl) (by kernel_rfl) (fun _ _ _ h=>h) (Or.inl ⟨by rfl,?_⟩) hS ?_
      rotate_left
      · (intro w hSw;(try dsimp only at hSw);go_simp;(try with_reducible rfl))
      rotate_left
      simp only [Act.put,zq0,zq1,zq2,zq3,zq4,zq5]
      refine wpAnyH_take (i:=14) (v:=?_) rfl (by kernel_rfl) (by kernel_rfl) (by kernel_rfl) (fun _ _ _ h=>h) (Or.inl ⟨by rfl,?_⟩) hS ?_
      rotate_left
      · (intro w hSw;(try dsimp only at hSw);go_simp;(try with_reducible rfl))
      rotate_left
      simp only [Act.put,zq0,zq1,zq2,zq3,zq4,zq5]
      refine wpAnyH_take (i:=16) (v:=?_) rfl (by kernel_rfl) (by kernel_rfl) (by kernel_rfl) (fun _ _ _ h=>h) (Or.inl ⟨by rfl,?_⟩) hS ?_
      rotate_left
      · (intro w hSw;(try dsimp only at hSw);go_simp;(try with_reducible rfl))
      rotate_left
      simp only [Act.put,zq0,zq1,zq2,zq3,zq4,zq5]
      refine wpAnyH_ready (rs:=[15]) (by kernel_rfl) (by simp) ?_
      refine AllReadyH.cons rfl (fun K hK=>?_) AllReadyH.nil
      rw [if_pos (by rfl)]
      go_simp
      refine hK.out _ _ hS (fun hS'=>?_)
      clear hK K hS
      have hS:=hS'
      clear hS'
      try simp only [Act.put,zq0,zq1,zq2,zq3,zq4,zq5]
      refine wpAnyH_take (i:=17) (v:=?_) rfl (by kernel_rfl) (by kernel_rfl) (by kernel_rfl) (fun _ _ _ h=>h) (Or.inl ⟨by rfl,?_⟩) hS ?_
      rotate_left
      · (intro w hSw;(try dsimp only at hSw);go_simp;(try with_reducible rfl))
      rotate_left
      simp only [Act.put,zq0,zq1,zq2,zq3,zq4,zq5]
      refine wpAnyH_take (i:=18) (v:=?_) rfl (by kernel_rfl) (by kernel_rfl) (by kernel_rfl) (fun _ _ _ h=>h) (Or.inl ⟨by rfl,?_⟩) hS ?_
      rotate_left
      · (intro w hSw;(try dsimp only at hSw);go_simp;(try with_reducible rfl))
      rotate_left
      simp only [Act.put,zq0,zq1,zq2,zq3,zq4,zq5]
      refine wpAnyH_take (i:=19) (v:=?_) rfl (by kernel_rfl) (by kernel_rfl) (by kernel_rfl) (fun _ _ _ h=>h) (Or.inl ⟨by rfl,?_⟩) hS ?_
      rotate_left
      · (intro w hSw;(try dsimp only at hSw);go_simp;(try with_reducible rfl))
      rotate_left
      simp only [Act.put,zq0,zq1,zq2,zq3,zq4,zq5]
      refine wpAnyH_ready (rs:=[20]) (by kernel_rfl) (by simp) ?_
      refine AllReadyH.cons rfl (fun K hK=>?_) AllReadyH.nil
      rw [if_pos (by rfl)]
      have mf:=HM1D.out.free
      have hXm : w.heap.size ≠ mb:=box_diff Pd HM1D.out (by decide)
      have hZm : w.heap.size + 1 ≠ mb:=box_diff Zd HM1D.out (by decide)
      go_simp
      have Xe:=mbox_else Pd hXm (oo + b) (.int .i64 (max 0 (mv - (many : Int))))
      have Ze:=mbox_else Zd hZm (oo + b) (.int .i64 (max 0 (mv - (many : Int))))
      have ce : (wd.setCell ⟨mb,oo + b,none⟩ (.int .i64 (max 0 (mv - (many : Int))))).cell? ⟨G,go + j * 6 + 5,none⟩ = some (.slice (some ⟨mb,oo,none⟩) (mksOf gj).length cm):=by
       rw [World.cell?_setCell_other (h:=fun e=>hGm (by injection e with e;exact e.symm))]
       exact c5d
      refine hK.out _ _ ⟨Xe.cell,ce⟩ (fun hS'=>?_)
      clear hK K hS hS' mf
      try simp only [Act.put,zq0,zq1,zq2,zq3,zq4,zq5]
      refine wpAnyH_done (by kernel_rfl) ?_ _
      have HDE : Hid (DropIs By lo R (some ⟨G,go,none⟩) d (dropY b many ys) (dropJ b many (j + 1) gs) w (wd.setCell ⟨mb,oo + b,none⟩ (.int .i64 (max 0 (mv - (many : Int)))))):=by
       refine (HDD.out.mark HM1D.out HM22.out hgo.out).cast ?_
       rw [HSTEP.out]
       congr 1
       exact dropMk_some HBB.out (congrArg (fun z=>max 0 (z - (many : Int))) HMV.out.symm)
      have HP5:=Lib.hid Xe
      have HZ5:=Lib.hid Ze
      clear m8 c5d ce Pd Zd hXm hZm hGm Xe Ze
      generalize wd.setCell ⟨mb,oo + b,none⟩ (.int .i64 (max 0 (mv - (many : Int)))) = wz at *
      go_wp2
      go_roundw
      case rel=>exact ⟨j + 1,HLJ.out,by first | exact round_same HWJ | go_num,HP5.out,HZ5.out,HDE.out⟩
      case measure=>first | exact round_less HWJ HLJ.out | (have h:=HLJ.out;simp [intOf];omega)
  · have HDE:=Lib.hid (hDr.cast (dropJ_all hlt))
    have z4:=Z4.cell
    have zf:=Z4.free
    have hZ6:=box_self2 Z4 (.slice (some ⟨R,0,none⟩) ys.length cR) (.slice B gs.length d)
    have hne : ¬ w.heap.size = w.heap.size + 1:=by omega
    have HDF : Hid (DropIs By lo R B d (dropY b many ys) (dropG b many gs) w ((wr.setCell ⟨w.heap.size + 1,0,none⟩ (.slice (some ⟨R,0,none⟩) ys.length cR)).setCell ⟨w.heap.size + 1,1,none⟩ (.slice B gs.length d))):=HDE.out.box Z4 (by omega) HLO.out HB2.out _ _
    go_wp2
    exact bodyPost_ret (v:=.agg #[.slice (some ⟨R,0,none⟩) ys.length cR,.slice B gs.length d]) (results_cell_row (P:=Try.prog) rfl _ _ (w.heap.size + 1) 28 #[.slice (some ⟨R,0,none⟩) ys.length cR,.slice B gs.length d] (0,0) _ rfl hZ6 Try.underlying28 rfl (by kernel_rfl)) rfl ⟨rfl,HDF.out⟩
theorem rwithout_est {By0 : Nat → Prop} {lo R cR : Nat} {B : Option Addr} {d : Nat} {s : Ys × List GoTy.T} {w w' : World} (h : ESt By0 lo R B d s w w') (hlo : lo ≤ w'.heap.size) (hf : Fit s) {b many : Nat} (hb : b < s.1.length) (hm : many < (s.1[b]).length ∧ many ≤ 1000) :
 Calls Try.prog 84 #[.agg #[.slice (some ⟨R,0,none⟩) s.1.length cR,.slice B s.2.length d],.int .i64 (b : Int),.int .i64 (many : Int)] w' fun e w''=>e = .returned (.agg #[.slice (some ⟨R,0,none⟩) s.1.length cR,.slice B s.2.length d]) ∧ ESt By0 lo R B d (dropS b many s) w w'' ∧ Kp lo w' w'':=by
 obtain ⟨By,h1,h2,h3,h4,h5,h6⟩:=h
 refine (rwithout_any By lo R cR B d s.1 s.2 b many w' h4 h5 (fun b hb=>(h2 b hb).2.1) hlo hb hm hf.2.2 hf.1).mono ?_
 rintro e w'' ⟨hv,k1,k2,k3,k4⟩
 exact ⟨hv,⟨By,h1,fun b hB=>newB_next (h2 b hB) k1.below.size (k4 b hB),h3.trans k1,k2,k3,fun b hB=>(k4 b (h1 b hB)).trans (h6 b hB)⟩,k1⟩
end Go.Proofs.Ytclbihcggjjgaaa
namespace Go.Proofs.Ytclbihcggjjgaaa
open Go Go.RowKit
set_option linter.unusedSimpArgs false
set_option linter.unusedVariables false
theorem wp_append_arg {P : Program} (w : World) {o : Oper} {a : Act} {K : Act → World → Prop} {Q : Exit → Act → World → Prop}
 (s x : Operand) (t : TypeId) (hop : o.op = Op.call { callee:=Callee.builtin Builtin.append,args:=#[s,x],argTypes:=#[t,t] })
 (e : TypeId) (i : TypeInfo) (z : Value) (size bytes : Nat) (h1 : P.underlying t = some (.slice e)) (h2 : P.info? e = some i) (h3 : i.zero = some z) (h4 : i.size = size) (h5 : i.bytes = bytes) (h6 : z.cells.size = size) (h7 : 0 < size)
 (b off n cap : Nat) (olds : List Value) (hs : a.eval s = .slice (some ⟨b,off,none⟩) n cap) (hlo : olds.length = n * size) (holds : ∀ j u,olds[j]? = some u → w.cell? ⟨b,off + j,none⟩ = some u)
 (ad : Addr) (m c : Nat) (news : List Value) (hx : a.eval x = .slice (some ad) m c) (hn : news.length = m * size) (hc : ∀ j u,news[j]? = some u → w.cell? (ad.add j) = some u) (h1c : ∀ u ∈ news,u.oneCell' = true)
 (hspare : n + m ≤ cap → ∀ j,j < news.length → (w.cell? ⟨b,off + n * size + j,none⟩).isSome = true ∧ w.frozen? ⟨b,off + n * size + j,none⟩ = false)
 (b1 : n + m ≤ maxLen) (b2 : (n + m) * bytes ≤ 140737488355328)
 (hroom : n + m ≤ cap → K (a.put o.dst (.slice (some ⟨b,off,none⟩) (n + m) cap)) (w.setCells b (off + n * size) news))
 (hgrow : cap < n + m → ∀ v' w',w'.ownsRow w.heap.size e size v' (n + m) (olds ++ news) → w.grownBy w' none → K (a.put o.dst v') w') :
 o.wp P a w K Q:=by
 by_cases hr : n + m ≤ cap
 · subst h4
   have hrun:=run_append_room_cells (P:=P) w t o.type e i h1 h2 b off n cap ad m c news hn hc h1c hr (fun j hj=>(hspare hr j hj).1) (fun j hj=>(hspare hr j hj).2)
   unfold Oper.wp
   simp [execOp,hop,resolve,invoke,builtin,hs,hx,hrun,Result.andThen]
   exact hroom hr
 · obtain ⟨v',w',hrun,r1,r2⟩:=run_append_arg_grows (P:=P) w t o.type e i z size bytes h1 h2 h3 h4 h5 h6 h7 ⟨b,off,none⟩ n cap olds hlo (fun j u hj=>by rw [Addr.add_lit];exact holds j u hj) ad m c news hn hc (by omega) b1 b2
   unfold Oper.wp
   simp [execOp,hop,resolve,invoke,builtin,hs,hx,hrun,Result.andThen]
   exact hgrow (by omega) v' w' r1 r2
theorem wp_pushS {P : Program} {w : World} {op : Oper} {a : Act} {K : Act → World → Prop} {Q : Exit → Act → World → Prop} (s x : Operand) (t : TypeId)
 (hop : op.op = .call { callee:=.builtin .append,args:=#[s,x],argTypes:=#[t,t] })
 (i : TypeInfo) (z : Value) (ht : P.underlying t = some (.slice 29)) (hi : P.info? 29 = some i) (hz : i.zero = some z) (hsize : i.size = 1) (hby : i.bytes = 24) (hzs : z.cells.size = 1)
 (By : Nat → Prop) (lo g o c : Nat) (zs : List (List UInt8)) (hrow : RowS w By lo g o c zs) (hs : a.eval s = .slice (some ⟨g,o,none⟩) zs.length c)
 (q k : Nat) (u : Value) (hx : a.eval x = .slice (some ⟨q,0,none⟩) 1 k) (hq : w.cell? ⟨q,0,none⟩ = some u) (v : List UInt8) (hu : RdIn w By (.sl .byte) v [u]) (hBy : ∀ b,By b → b < w.heap.size) (hl : zs.length ≤ 1000) (hlo : lo ≤ w.heap.size)
 (h : ∀ w' g' o' c',RowS w' By lo g' o' c' (zs ++ [v]) → (g' = g ∨ w.heap.size ≤ g') → w.grownBy w' (some g) → K (a.put op.dst (.slice (some ⟨g',o',none⟩) (zs.length + 1) c')) w') : op.wp P a w K Q:=by
 obtain ⟨cur,k1,k2,k3,k4,k5,k6⟩:=hrow
 have hcl : cur.toList.length = cur.size:=Array.length_toList
 have hu1 : u.oneCell' = true:=RdIn.plain _ hu u (by simp)
 refine wp_append_arg w s x t hop 29 i z 1 24 ht hi hz hsize hby hzs (by decide) g o zs.length c ((cur.toList.drop o).take zs.length) hs ?_ ?_ ⟨q,0,none⟩ 1 k [u] hx rfl ?_ ?_ ?_ ?_ ?_ ?_ ?_
 · rw [List.length_take,List.length_drop,hcl];omega
 · intro j w2 hj
   rw [List.getElem?_take] at hj
   split at hj
   · rw [k1.cell,← List.getElem?_drop];exact hj
   · cases hj
 · intro j w2 hj
   have h0 : j = 0:=by have:=(List.getElem?_eq_some_iff.1 hj).1;simpa using this
   subst h0
   rw [add_plain]
   rw [← hj]
   exact hq
 · intro w2 h2
   rw [List.mem_singleton.1 h2]
   exact hu1
 · intro hr j hj
   refine ⟨?_,k1.free _⟩
   have hj0 : j = 0:=by simpa using hj
   subst hj0
   rw [k1.cell,List.getElem?_eq_getElem (by rw [hcl];omega)]
   rfl
 · unfold maxLen;omega
 · omega
 · intro hr
   obtain ⟨cur',d1,d2,d3⟩:=box_setCells [u] (o + zs.length * 1) w cur k1 (by simp;omega)
   have hg:=grown_setCells g [u] (o + zs.length * 1) w
   refine h _ g o c ⟨cur',d1,by rw [List.length_append,List.length_singleton];exact hr,k3,by rw [d2];exact k4,k5,fun j hj=>?_⟩ (.inl rfl) hg
   have hB : ∀ b,By b → (w.setCells g (o + zs.length * 1) [u]).heap[b]? = w.heap[b]?:=fun b hb=>hg.block b (hBy b hb) (fun e=>k5.2 ((Option.some.inj e) ▸ hb))
   rw [List.length_append,List.length_singleton] at hj
   by_cases hj2 : j < zs.length
   · obtain ⟨u2,e1,e2⟩:=k6 j hj2
     refine ⟨u2,?_,?_⟩
     · rw [d3,if_neg (by omega)];exact e1
     · rw [List.getElem_append_left hj2];exact e2.frame hB
   · have : j = zs.length:=by omega
     subst this
     refine ⟨u,?_,?_⟩
     · rw [d3,if_pos (by simp),show o + zs.length - (o + zs.length * 1) = 0 by omega];rfl
     · rw [List.getElem_append_right (Nat.le_refl _)]
       simp only [Nat.sub_self,List.getElem_singleton]
       exact hu.frame hB
 · intro hg0 v' w' hown hgr
   obtain ⟨g',c',cur',rfl,e1,e2,e3,e4,e5,e6⟩:=own_view hown (by omega)
   have hB : ∀ b,By b → w'.heap[b]? = w.heap[b]?:=fun b hb=>hgr.block b (hBy b hb) (fun e=>by cases e)
   have hg2 : w.grownBy w' (some g):=⟨hgr.os,hgr.tape,hgr.output,hgr.size,fun b hb _=>hgr.block b hb (fun e=>by cases e)⟩
   refine h w' g' 0 c' ⟨cur',e2,by rw [List.length_append,List.length_singleton];exact e3,e4,by rw [e5];omega,⟨by omega,fun hh=>by have:=hBy _ hh;omega⟩,fun j hj=>?_⟩ (.inr e1) hg2
   rw [List.length_append,List.length_singleton] at hj
   have e7:=e6 j (by omega)
   by_cases hj2 : j < zs.length
   · obtain ⟨u2,f1,f2⟩:=k6 j hj2
     refine ⟨u2,?_,?_⟩
     · rw [Nat.zero_add,e7,List.getElem?_append_left (by rw [List.length_take,List.length_drop,hcl];omega),List.getElem?_take,if_pos hj2,List.getElem?_drop]
       exact f1
     · rw [List.getElem_append_left hj2];exact f2.frame hB
   · have : j = zs.length:=by omega
     subst this
     have hll : ((cur.toList.drop o).take zs.length).length = zs.length:=by rw [List.length_take,List.length_drop,hcl];omega
     refine ⟨u,?_,?_⟩
     · rw [Nat.zero_add,e7,List.getElem?_append_right (by rw [hll];exact Nat.le_refl _),hll,Nat.sub_self];rfl
     · rw [List.getElem_append_right (Nat.le_refl _)]
       simp only [Nat.sub_self,List.getElem_singleton]
       exact hu.frame hB
theorem setCell_same {w : World} {k i : Nat} {v : Value} (h : w.cell? ⟨k,i,none⟩ = some v) : w.setCell ⟨k,i,none⟩ v = w:=by
 have e : (w.setCell ⟨k,i,none⟩ v).heap = w.heap:=by
  apply Array.ext_getElem?
  intro j
  unfold World.setCell
  simp only [Array.getElem?_modify]
  by_cases e : k = j
  · subst e
    unfold World.cell? at h
    rw [if_pos rfl]
    cases hh : w.heap[k]? with
    | none=>rfl
    | some o=>
      rw [hh] at h
      cases o with
      | cells c t f=>
        simp at h
        obtain ⟨h1,h2⟩:=Array.getElem?_eq_some_iff.1 h
        simp
        rw [Array.setIfInBounds_def,dif_pos h1]
        have : c.set i v = c:=by
           apply Array.ext_getElem?
           intro q
           rw [Array.getElem?_set]
           split
           · rename_i e;subst e;exact h.symm
           · rfl
        rw [this]
      | _=>rfl
  · rw [if_neg e]
 unfold World.setCell at *
 simp only at e
 rw [e]
theorem two_same {w : World} {k : Nat} {u v : Value} {t : TypeId} (h : BoxOf w k #[u,v] t) : (w.setCell ⟨k,0,none⟩ u).setCell ⟨k,1,none⟩ v = w:=by
 rw [setCell_same (h.cell 0),setCell_same (h.cell 1)]
theorem rdin_less {w : World} {By : Nat → Prop} {bs : List UInt8} {u : Value} (h : RdIn w By (.sl .byte) bs [u]) {k : Nat} {cs : Array Value} {t : TypeId} (hb : BoxOf w k cs t) (hc : ∀ (i : Nat) (x : UInt8),cs.toList[i]? ≠ some (byteV x)) : RdIn w (fun b=>By b ∧ b ≠ k) (.sl .byte) bs [u]:=by
 obtain ⟨A,c,e,h1,h2,h3,h4⟩:=rdin_sl.1 h
 refine rdin_sl.2 ⟨A,c,e,h1,h2,h3,?_⟩
 rcases h4 with h4 | ⟨b,o,e1,hS,h5⟩
 · exact .inl h4
 · by_cases hn : bs = []
   · exact .inl hn
   · have h0 : 0 < bs.length:=List.length_pos_iff.2 hn
     have hne : b ≠ k:=fun e2=>by
      obtain ⟨es,h6,h7⟩:=h5 0 h0
      obtain rfl:=rdin_byte.1 h7
      have h8:=h6 0 (by decide)
      rw [e2,hb.cell] at h8
      exact hc _ _ h8
     refine .inr ⟨b,o,e1,⟨hS,hne⟩,fun q hq=>?_⟩
     obtain ⟨es,h6,h7⟩:=h5 q hq
     obtain rfl:=rdin_byte.1 h7
     exact ⟨_,h6,rdin_byte.2 rfl⟩
theorem MayS.less {w : World} {By : Nat → Prop} {lo R : Nat} {ys : Ys} (h : MayS w By lo R ys) {k : Nat} {cs : Array Value} {t : TypeId} (hb : BoxOf w k cs t) (hc : ∀ (i : Nat) (x : UInt8),cs.toList[i]? ≠ some (byteV x)) : MayS w (fun b=>By b ∧ b ≠ k) lo R ys:=by
 obtain ⟨cells,gf,of,cf,h1,h2,h3,h4⟩:=h
 refine ⟨cells,gf,of,cf,h1,⟨h2.1,fun h=>h2.2 h.1⟩,fun i hi=>⟨(h3 i hi).1,?_⟩,h4⟩
 obtain ⟨cur,k1,k2,k3,k4,k5,k6⟩:=(h3 i hi).2
 refine ⟨cur,k1,k2,k3,k4,⟨k5.1,fun h=>k5.2 h.1⟩,fun q hq=>?_⟩
 obtain ⟨u,e1,e2⟩:=k6 q hq
 exact ⟨u,e1,rdin_less e2 hb hc⟩
theorem GoS.less {w : World} {By : Nat → Prop} {lo : Nat} {B : Option Addr} {d : Nat} {gs : List GoTy.T} (h : GoS w By lo B d gs) {k : Nat} {cs : Array Value} {t : TypeId} (hb : BoxOf w k cs t) (hc : ∀ (i : Nat) (x : UInt8),cs.toList[i]? ≠ some (byteV x)) : GoS w (fun b=>By b ∧ b ≠ k) lo B d gs:=by
 rcases h with h | ⟨G,o,cells,bf,e,h1,h2,h3,h4⟩
 · exact .inl h
 · refine .inr ⟨G,o,cells,bf,e,h1,⟨h2.1,fun h=>h2.2.1 h.1,h2.2.2⟩,fun j hj=>?_,h4⟩
   obtain ⟨vd,vm,k1,k2,k3,k4⟩:=h3 j hj
   refine ⟨vd,vm,k1,k2,rdin_less k3 hb hc,k4.1,?_⟩
   obtain ⟨A,c,m1,m2,m3,m4,m5⟩:=k4.2
   refine ⟨A,c,m1,m2,m3,m4,?_⟩
   rcases m5 with m5 | ⟨o,cur,n1,n2,n3,n4⟩
   · exact .inl m5
   · exact .inr ⟨o,cur,n1,n2,⟨n3.1,fun h=>n3.2 h.1⟩,n4⟩
theorem ESt.box2 {By0 : Nat → Prop} {lo R : Nat} {B : Option Addr} {d : Nat} {s : Ys × List GoTy.T} {w w' : World} (h : ESt By0 lo R B d s w w') (hB0 : ∀ b,By0 b → b < w.heap.size) {k : Nat} (hb : BoxOf w' k #[.slice none 0 0,.slice none 0 0] 28) (hk : w.heap.size ≤ k) (hlo : lo ≤ w.heap.size) (u v : Value) : ESt By0 lo R B d s w ((w'.setCell ⟨k,0,none⟩ u).setCell ⟨k,1,none⟩ v):=by
 obtain ⟨By,h1,h2,h3,h4,h5,h6⟩:=h
 have hc : ∀ (i : Nat) (x : UInt8),(#[.slice none 0 0,.slice none 0 0] : Array Value).toList[i]? ≠ some (byteV x):=by
  intro i x e
  match i,e with
  | 0,e=>cases e
  | 1,e=>cases e
  | i + 2,e=>simp at e
 have g4:=h4.less hb hc
 have g5:=h5.less hb hc
 have hD : DropIs (fun b=>By b ∧ b ≠ k) lo R B d s.1 s.2 w' w':=⟨Kp.refl _ _,g4,g5,fun _ _=>rfl⟩
 have hb1:=mbox_self hb 0 u
 have hBf : ∀ b,(By b ∧ b ≠ k) → ((w'.setCell ⟨k,0,none⟩ u).setCell ⟨k,1,none⟩ v).heap[b]? = w'.heap[b]?:=fun b hB=>(Below.heap_setCell _ _ _ _ hB.2).trans (Below.heap_setCell _ _ _ _ hB.2)
 have hB1 : ∀ b,(By b ∧ b ≠ k) → (w'.setCell ⟨k,0,none⟩ u).heap[b]? = w'.heap[b]?:=fun b hB=>Below.heap_setCell _ _ _ _ hB.2
 have hB2 : ∀ b,(By b ∧ b ≠ k) → ((w'.setCell ⟨k,0,none⟩ u).setCell ⟨k,1,none⟩ v).heap[b]? = (w'.setCell ⟨k,0,none⟩ u).heap[b]?:=fun b hB=>Below.heap_setCell _ _ _ _ hB.2
 have hs : ((w'.setCell ⟨k,0,none⟩ u).setCell ⟨k,1,none⟩ v).heap.size = w'.heap.size:=by rw [msize,msize]
 refine ⟨fun b=>By b ∧ b ≠ k,fun b hb'=>⟨h1 b hb',by have:=hB0 b hb';omega⟩,fun b hB=>newB_next (h2 b hB.1) (Nat.le_of_eq hs.symm) (hBf b hB),⟨?_,fun b cs' t q1 q2 q3 q4=>?_⟩,?_,?_,fun b hb'=>(hBf b ⟨h1 b hb',by have:=hB0 b hb';omega⟩).trans (h6 b hb')⟩
 · exact Below.setCell (p:=⟨k,1,none⟩) (Below.setCell (p:=⟨k,0,none⟩) h3.below (by show lo ≤ k;omega) u) (by show lo ≤ k;omega) v
 · exact mbox_else (mbox_else (h3.box b cs' t q1 q2 q3 q4) (show b ≠ k by have:=q1.lt;omega) 0 u) (show b ≠ k by have:=q1.lt;omega) 1 v
 · exact (g4.but (by decide) (by decide) (But.setCell hb u) hB1).but (by decide) (by decide) (But.setCell hb1 v) hB2
 · exact (g5.but (by decide) (by decide) (But.setCell hb u) hB1 (fun _ h=>h) (fun _ _ h=>h)).but (by decide) (by decide) (But.setCell hb1 v) hB2 (fun _ h=>h) (fun _ _ h=>h)
set_option maxRecDepth 100000 in
theorem rvalue_any (R cR N M d b g o q c l c' : Nat) (B A' : Option Addr) (w : World) (hb : b < N) (h1 : w.cell? ⟨R,b,none⟩ = some (.slice (some ⟨g,o,none⟩) (q + 1) c)) (h2 : w.cell? ⟨g,o + q,none⟩ = some (.slice A' l c')) (hq : q ≤ 1000) :
 Calls Try.prog 85 #[.agg #[.slice (some ⟨R,0,none⟩) N cR,.slice B M d],.int .i64 (b : Int)] w fun e w'=>e = .returned (.slice A' l c') ∧ Below w.heap.size w w':=by
 have P0:=BoxOf.new w #[.slice (some ⟨R,0,none⟩) N cR,.slice B M d] 28
 have t0:=Ext.alloc (Below.refl w.heap.size w) (.cells #[.slice (some ⟨R,0,none⟩) N cR,.slice B M d] 28)
 have m1:=(t0.cell (block_lt_of_cell h1)).trans h1
 have m2:=(t0.cell (block_lt_of_cell h2)).trans h2
 have hw : IntKind.i64.wrap (((q + 1 : Nat) : Int) - 1) = (q : Int):=by rw [i64_fit (by omega)];omega
 have HT0:=Lib.hid t0
 have hq1 : q < q + 1:=by omega
 obtain ⟨L,hL⟩ : ∃ L,L = q + 1:=⟨_,rfl⟩
 rw [← hL] at m1 hw hq1
 clear h1 h2 hq hL t0
 go_enter Try.func85,Try.ntmps85
 go_upto_region 1 with fail
 generalize w.alloc (.cells #[.slice (some ⟨R,0,none⟩) N cR,.slice B M d] 28) = W at *
 have HS : Hid (∀ w',Below W.heap.size W w' → (Below W.heap.size W w' ∧ (∀ p,w'.cell? ⟨w.heap.size,p,none⟩ = (#[.slice (some ⟨R,0,none⟩) N cR,.slice B M d] : Array Value).toList[p]?) ∧ w'.cell? ⟨R,b,none⟩ = some (.slice (some ⟨g,o,none⟩) L c) ∧ w'.cell? ⟨g,o + q,none⟩ = some (.slice A' l c'))):=fun w' b=>⟨b,(P0.next b).cell,(b.cell (block_lt_of_cell m1)).trans m1,(b.cell (block_lt_of_cell m2)).trans m2⟩
 refine wp_region_held_drew (S:=fun w'=>Below W.heap.size W w' ∧ (∀ p,w'.cell? ⟨w.heap.size,p,none⟩ = (#[.slice (some ⟨R,0,none⟩) N cR,.slice B M d] : Array Value).toList[p]?) ∧ w'.cell? ⟨R,b,none⟩ = some (.slice (some ⟨g,o,none⟩) L c) ∧ w'.cell? ⟨g,o + q,none⟩ = some (.slice A' l c')) (by kernel_rfl) (HS.out _ (Ext.drew (Below.refl _ _))) (fun hS=>?_)
 refine wpAnyH_take (i:=0) (v:=?_) rfl (by kernel_rfl) (by kernel_rfl) (by kernel_rfl) (fun _ _ _ h=>h) (Or.inl ⟨by rfl,?_⟩) hS ?_
 rotate_left
 · (intro w hSw;(try dsimp only at hSw);go_simp;(try with_reducible rfl))
 rotate_left
 simp only [Act.put,zq0,zq1,zq2,zq3,zq4,zq5]
 refine wpAnyH_take (i:=1) (v:=?_) rfl (by kernel_rfl) (by kernel_rfl) (by kernel_rfl) (fun _ _ _ h=>h) (Or.inl ⟨by rfl,?_⟩) hS ?_
 rotate_left
 · (intro w hSw;(try dsimp only at hSw);go_simp;(try with_reducible rfl))
 rotate_left
 simp only [Act.put,zq0,zq1,zq2,zq3,zq4,zq5]
 refine wpAnyH_take (i:=2) (v:=?_) rfl (by kernel_rfl) (by kernel_rfl) (by kernel_rfl) (fun _ _ _ h=>h) (Or.inl ⟨by rfl,?_⟩) hS ?_
 rotate_left
 · (intro w hSw;(try dsimp only at hSw);go_simp;(try with_reducible rfl))
 rotate_left
 simp only [Act.put,zq0,zq1,zq2,zq3,zq4,zq5]
 refine wpAnyH_take (i:=3) (v:=?_) rfl (by kernel_rfl) (by kernel_rfl) (by kernel_rfl) (fun _ _ _ h=>h) (Or.inl ⟨by rfl,?_⟩) hS ?_
 rotate_left
 · (intro w hSw;(try dsimp only at hSw);go_simp;(try with_reducible rfl))
 rotate_left
 simp only [Act.put,zq0,zq1,zq2,zq3,zq4,zq5]
 refine wpAnyH_take (i:=4) (v:=?_) rfl (by kernel_rfl) (by kernel_rfl) (by kernel_rfl) (fun _ _ _ h=>h) (Or.inl ⟨by rfl,?_⟩) hS ?_
 rotate_left
 · (intro w hSw;(try dsimp only at hSw);go_simp;(try with_reducible rfl))
 rotate_left
 simp only [Act.put,zq0,zq1,zq2,zq3,zq4,zq5]
 refine wpAnyH_take (i:=5) (v:=?_) rfl (by kernel_rfl) (by kernel_rfl) (by kernel_rfl) (fun _ _ _ h=>h) (Or.inl ⟨by rfl,?_⟩) hS ?_
 rotate_left
 · (intro w hSw;(try dsimp only at hSw);go_simp;(try with_reducible rfl))
 rotate_left
 simp only [Act.put,zq0,zq1,zq2,zq3,zq4,zq5]
 refine wpAnyH_take (i:=6) (v:=?_) rfl (by kernel_rfl) (by kernel_rfl) (by kernel_rfl) (fun _ _ _ h=>h) (Or.inl ⟨by rfl,?_⟩) hS ?_
 rotate_left
 · (intro w hSw;(try dsimp only at hSw);go_simp;(try with_reducible rfl))
 rotate_left
 simp only [Act.put,zq0,zq1,zq2,zq3,zq4,zq5]
 refine wpAnyH_take (i:=7) (v:=?_) rfl (by kernel_rfl) (by kernel_rfl) (by kernel_rfl) (fun _ _ _ h=>h) (Or.inl ⟨by rfl,?_⟩) hS ?_
 rotate_left
 · (intro w hSw;(try dsimp only at hSw);go_simp;(try with_reducible rfl))
 rotate_left
 simp only [Act.put,zq0,zq1,zq2,zq3,zq4,zq5]
 refine wpAnyH_take (i:=8) (v:=?_) rfl (by kernel_rfl) (by kernel_rfl) (by kernel_rfl) (fun _ _ _ h=>h) (Or.inl ⟨by rfl,?_⟩) hS ?_
 rotate_left
 · (intro w hSw;(try dsimp only at hSw);go_simp;(try with_reducible rfl))
 rotate_left
 simp only [Act.put,zq0,zq1,zq2,zq3,zq4,zq5]
 refine wpAnyH_take (i:=9) (v:=?_) rfl (by kernel_rfl) (by kernel_rfl) (by kernel_rfl) (fun _ _ _ h=>h) (Or.inl ⟨by rfl,?_⟩) hS ?_
 rotate_left
 · (intro w hSw;(try dsimp only at hSw);go_simp;(try with_reducible rfl))
 rotate_left
 simp only [Act.put,zq0,zq1,zq2,zq3,zq4,zq5]
 refine wpAnyH_take (i:=10) (v:=?_) rfl (by kernel_rfl) (by kernel_rfl) (by kernel_rfl) (fun _ _ _ h=>h) (Or.inl ⟨by rfl,?_⟩) hS ?_
 rotate_left
 · (intro w hSw;(try dsimp only at hSw);go_simp;(try with_reducible rfl))
 rotate_left
 simp only [Act.put,zq0,zq1,zq2,zq3,zq4,zq5]
 refine wpAnyH_take (i:=11) (v:=?_) rfl (by kernel_rfl) (by kernel_rfl) (by kernel_rfl) (fun _ _ _ h=>h) (Or.inl ⟨by rfl,?_⟩) hS ?_
 rotate_left
 · (intro w hSw;(try dsimp only at hSw);go_simp;(try with_reducible rfl))
 rotate_left
 simp only [Act.put,zq0,zq1,zq2,zq3,zq4,zq5]
 refine wpAnyH_take (i:=12) (v:=?_) rfl (by kernel_rfl) (by kernel_rfl) (by kernel_rfl) (fun _ _ _ h=>h) (Or.inl ⟨by rfl,?_⟩) hS ?_
 rotate_left
 · (intro w hSw;(try dsimp only at hSw);go_simp;(try with_reducible rfl))
 rotate_left
 simp only [Act.put,zq0,zq1,zq2,zq3,zq4,zq5]
 refine wpAnyH_take (i:=13) (v:=?_) rfl (by kernel_rfl) (by kernel_rfl) (by kernel_rfl) (fun _ _ _ h=>h) (Or.inl ⟨by rfl,?_⟩) hS ?_
 rotate_left
 · (intro w hSw;(try dsimp only at hSw);go_simp;(try with_reducible rfl))
 rotate_left
 simp only [Act.put,zq0,zq1,zq2,zq3,zq4,zq5]
 refine wpAnyH_take (i:=14) (v:=?_) rfl (by kernel_rfl) (by kernel_rfl) (by kernel_rfl) (fun _ _ _ h=>h) (Or.inl ⟨by rfl,?_⟩) hS ?_
 rotate_left
 · (intro w hSw;(try dsimp only at hSw);go_simp;(try with_reducible rfl))
 rotate_left
 simp only [Act.put,zq0,zq1,zq2,zq3,zq4,zq5]
 refine wpAnyH_done (by kernel_rfl) ?_ _
 have HB:=Lib.hid (Ext.trans HT0.out hS.1)
 clear hS HS m1 m2
 go_wp2
 go_ret
 exact ⟨rfl,HB.out⟩
end Go.Proofs.Ytclbihcggjjgaaa
