/- What this claim needs of my texts, merged and shortened by a program (part 4). -/
import Derived.Test.YthapabjlhooglaaZFlightAdds3
namespace Go.Proofs.Ythapabjlhooglaa
open Go Go.RowKit
set_option linter.unusedSimpArgs false
set_option linter.unusedVariables false
def seqV (n : Nat) : Value:=.int .u32 (n : Int)
def NumRow (w : World) (F : Nat → Prop) (tid : TypeId) (v : Value) (xs : List Value) : Prop:=
 ∃ A cap,v = .slice A xs.length cap ∧ xs.length ≤ cap ∧ cap ≤ maxLen ∧ (∀ g,v.ownBlock = some g → F g) ∧ (xs = [] ∨ ∃ g cur,A = some ⟨g,0,none⟩ ∧ BoxOf w g cur tid ∧ cur.toList.take xs.length = xs)
section
variable {w w' : World} {F F' : Nat → Prop} {tid : TypeId} {v : Value} {xs : List Value}
theorem NumRow.frame (h : NumRow w F tid v xs) (hf : ∀ b,F b → w'.heap[b]? = w.heap[b]?) : NumRow w' F tid v xs:=by
 obtain ⟨A,cap,rfl,h1,h2,h3,h4⟩:=h
 refine ⟨A,cap,rfl,h1,h2,h3,?_⟩
 rcases h4 with h4 | ⟨g,cur,rfl,h5,h6⟩
 · exact .inl h4
 · exact .inr ⟨g,cur,rfl,by unfold BoxOf at *;rw [hf g (h3 g rfl)];exact h5,h6⟩
theorem NumRow.mono (h : NumRow w F tid v xs) (hF : ∀ b,F b → F' b) : NumRow w F' tid v xs:=by
 obtain ⟨A,cap,h0,h1,h2,h3,h4⟩:=h
 exact ⟨A,cap,h0,h1,h2,fun g hg=>hF g (h3 g hg),h4⟩
theorem NumRow.slice (h : NumRow w F tid v xs) : ∃ A c,v = .slice A xs.length c:=by
 obtain ⟨A,cap,h0,_⟩:=h
 exact ⟨A,cap,h0⟩
theorem NumRow.at (h : NumRow w F tid v xs) {i : Nat} (hi : i < xs.length) : ∃ g cap cur,v = .slice (some ⟨g,0,none⟩) xs.length cap ∧ F g ∧ BoxOf w g cur tid ∧ i < cur.size:=by
 obtain ⟨A,cap,rfl,h1,h2,h3,h4⟩:=h
 rcases h4 with h4 | ⟨g,cur,rfl,h5,h6⟩
 · rw [h4] at hi;exact absurd hi (by simp)
 · refine ⟨g,cap,cur,rfl,h3 g rfl,h5,?_⟩
   have h7:=congrArg List.length h6
   rw [List.length_take] at h7
   have h8 : cur.toList.length = cur.size:=by simp
   omega
theorem NumRow.cell (h : NumRow w F tid v xs) {i : Nat} (hi : i < xs.length) : ∃ g cap,v = .slice (some ⟨g,0,none⟩) xs.length cap ∧ w.cell? ⟨g,i,none⟩ = some (xs[i]'hi):=by
 obtain ⟨A,cap,rfl,h1,h2,h3,h4⟩:=h
 rcases h4 with h4 | ⟨g,cur,rfl,h5,h6⟩
 · rw [h4] at hi;exact absurd hi (by simp)
 · refine ⟨g,cap,rfl,?_⟩
   rw [h5.cell]
   have h7 : (cur.toList.take xs.length)[i]? = xs[i]?:=by rw [h6]
   rw [List.getElem?_take,if_pos hi,List.getElem?_eq_getElem hi] at h7
   exact h7
theorem NumRow.set {g c n : Nat} (h : NumRow w F tid (.slice (some ⟨g,0,none⟩) n c) xs) {i : Nat} (hi : i < xs.length) (u : Value) : NumRow (w.setCell ⟨g,i,none⟩ u) F tid (.slice (some ⟨g,0,none⟩) n c) (xs.set i u):=by
 obtain ⟨A,cap,h0,h1,h2,h3,h4⟩:=h
 injection h0 with h01 h02 h03
 subst h01 h03
 refine ⟨_,c,by rw [List.length_set,h02],by rw [List.length_set];exact h1,h2,h3,?_⟩
 rcases h4 with h4 | ⟨g',cur,e,h5,h6⟩
 · rw [h4] at hi;exact absurd hi (by simp)
 · injection e with e
   injection e with e _ _
   subst e
   refine .inr ⟨_,_,rfl,mbox_self h5 i u,?_⟩
   rw [Array.toList_setIfInBounds,List.length_set,List.take_set,h6]
theorem NumRow.setElse (h : NumRow w F tid v xs) {k : Nat} {cs : Array Value} {t : TypeId} (hk : BoxOf w k cs t) (ht : tid ≠ t) (i : Nat) (u : Value) : NumRow (w.setCell ⟨k,i,none⟩ u) F tid v xs:=by
 obtain ⟨A,cap,h0,h1,h2,h3,h4⟩:=h
 refine ⟨A,cap,h0,h1,h2,h3,?_⟩
 rcases h4 with h4 | ⟨g,cur,e,h5,h6⟩
 · exact .inl h4
 · exact .inr ⟨g,cur,e,mbox_else h5 (box_diff h5 hk ht) i u,h6⟩
theorem NumRow.rd {xs : List UInt8} (h : NumRow w F tid v (xs.map byteV)) (hz : xs.length ≤ 140737488355328) : RdIn w (fun b=>F b ∧ Live w b) (.sl .byte) xs [v]:=by
 obtain ⟨A,cap,h0,h1,h2,h3,h4⟩:=h
 subst h0
 rw [List.length_map] at *
 refine rdin_sl.2 ⟨A,cap,by rfl,h1,h2,by show xs.length * 1 ≤ _;omega,?_⟩
 rcases h4 with h4 | ⟨g,cur,rfl,h5,h6⟩
 · exact .inl (List.map_eq_nil_iff.1 h4)
 · refine .inr ⟨g,0,rfl,⟨h3 g rfl,_,_,h5⟩,fun i hi=>⟨[byteV (xs[i]'hi)],fun j hj=>?_,rdin_byte.2 rfl⟩⟩
   have hj0 : j = 0:=by have : j < 1:=hj;omega
   subst hj0
   show w.cell? ⟨g,0 + i * 1 + 0,none⟩ = some _
   rw [Nat.mul_one,Nat.add_zero,Nat.zero_add,h5.cell]
   have h7 : (cur.toList.take xs.length)[i]? = (xs.map byteV)[i]?:=by rw [h6]
   rw [List.getElem?_take,if_pos (show i < xs.length from hi)] at h7
   rw [h7]
   have hi' : i < xs.length:=hi
   simp [hi']
   rfl
theorem NumRow.rdq {xs : List Nat} (h : NumRow w F tid v (xs.map seqV)) (hz : xs.length * 4 ≤ 140737488355328) (hq : ∀ q ∈ xs,q < 2 ^ 32) : RdIn w (fun b=>F b ∧ Live w b) (.sl .u32) xs [v]:=by
 obtain ⟨A,cap,h0,h1,h2,h3,h4⟩:=h
 subst h0
 rw [List.length_map] at *
 refine rdin_sl.2 ⟨A,cap,by rfl,h1,h2,by show xs.length * 4 ≤ _;omega,?_⟩
 rcases h4 with h4 | ⟨g,cur,rfl,h5,h6⟩
 · exact .inl (List.map_eq_nil_iff.1 h4)
 · refine .inr ⟨g,0,rfl,⟨h3 g rfl,_,_,h5⟩,fun i hi=>⟨[seqV (xs[i]'hi)],fun j hj=>?_,rdin_u32.2 ⟨rfl,hq _ (List.getElem_mem hi)⟩⟩⟩
   have hj0 : j = 0:=by have : j < 1:=hj;omega
   subst hj0
   show w.cell? ⟨g,0 + i * 1 + 0,none⟩ = some _
   rw [Nat.mul_one,Nat.add_zero,Nat.zero_add,h5.cell]
   have h7 : (cur.toList.take xs.length)[i]? = (xs.map seqV)[i]?:=by rw [h6]
   rw [List.getElem?_take,if_pos (show i < xs.length from hi)] at h7
   rw [h7]
   have hi' : i < xs.length:=hi
   simp [hi']
   rfl
theorem NumRow.rdb {hs : List Value} {T : Nat → Prop} {ds : List (List UInt8)} (h : NumRow w F tid v hs) (hl : hs.length = ds.length) (hz : ds.length * 24 ≤ 140737488355328) (hr : ∀ i (h : i < hs.length) (h' : i < ds.length),RdIn w T (.sl .byte) ds[i] [hs[i]]) : RdIn w (fun b=>(F b ∧ Live w b) ∨ T b) (.sl (.sl .byte)) ds [v]:=by
 obtain ⟨A,cap,h0,h1,h2,h3,h4⟩:=h
 subst h0
 refine rdin_sl.2 ⟨A,cap,by rw [hl];rfl,by show ds.length ≤ cap;omega,h2,hz,?_⟩
 rcases h4 with h4 | ⟨g,cur,rfl,h5,h6⟩
 · exact .inl (List.eq_nil_of_length_eq_zero (by rw [← hl,h4];rfl))
 · refine .inr ⟨g,0,rfl,.inl ⟨h3 g rfl,_,_,h5⟩,fun i hi=>?_⟩
   have hi' : i < ds.length:=hi
   refine ⟨[hs[i]'(by omega)],fun j hj=>?_,(hr i (by omega) hi').mono fun b hb=>.inr hb⟩
   have hj0 : j = 0:=by have : j < 1:=hj;omega
   subst hj0
   show w.cell? ⟨g,0 + i * 1 + 0,none⟩ = some _
   rw [Nat.mul_one,Nat.add_zero,Nat.zero_add,h5.cell]
   have h7 : (cur.toList.take hs.length)[i]? = hs[i]?:=by rw [h6]
   rw [List.getElem?_take,if_pos (show i < hs.length by omega)] at h7
   rw [h7,List.getElem?_eq_getElem (show i < hs.length by omega)]
end
def fSetS (f : FlTy.T) (i : Nat) (s : UInt8) : FlTy.T:=mkFl (fN f) (fK f) (fA f) (fM f) (fD f) ((fS f).set i s) (fQ f) (fB f)
def fSetQ (f : FlTy.T) (i : Nat) (q : Nat) : FlTy.T:=mkFl (fN f) (fK f) (fA f) (fM f) (fD f) (fS f) ((fQ f).set i q) (fB f)
def fSetB (f : FlTy.T) (i : Nat) (d : List UInt8) : FlTy.T:=mkFl (fN f) (fK f) (fA f) (fM f) (fD f) (fS f) (fQ f) ((fB f).set i d)
structure FlEs (w : World) (S : Nat → Prop) (f : FlTy.T) (vd vs vq vx : Value) (hs : List Value) (T : Nat → Prop) : Prop where
 ints : IsInt (fN f) ∧ IsInt (fA f) ∧ IsInt (fM f)
 small : ∀ q ∈ fQ f,q < 2 ^ 32
 size : (fS f).length ≤ 140737488355328 ∧ (fQ f).length * 4 ≤ 140737488355328 ∧ (fB f).length * 24 ≤ 140737488355328
 st : NumRow w S 5 vs ((fS f).map byteV)
 sq : NumRow w S 22 vq ((fQ f).map seqV)
 row : NumRow w S 26 vx hs
 len : hs.length = (fB f).length
 dat : RdIn w T (.sl .byte) (fD f) [vd]
 each : ∀ i (h : i < hs.length) (h' : i < (fB f).length),RdIn w T (.sl .byte) (fB f)[i] [hs[i]]
 byt : ∀ b,T b → S b ∧ Live w b ∧ vs.ownBlock ≠ some b ∧ vq.ownBlock ≠ some b ∧ vx.ownBlock ≠ some b
def flCells (f : FlTy.T) (vd vs vq vx : Value) : List Value:=[.int .i64 (fN f),.int .u8 (kI f),.int .i64 (fA f),.int .i64 (fM f),vd,vs,vq,vx]
def FlE (w : World) (S : Nat → Prop) (f : FlTy.T) (es : List Value) : Prop:=∃ vd vs vq vx hs T,es = flCells f vd vs vq vx ∧ FlEs w S f vd vs vq vx hs T
section
variable {w w' : World} {S S' : Nat → Prop} {f : FlTy.T} {vd vs vq vx : Value} {hs : List Value} {T : Nat → Prop} {es : List Value}
theorem FlEs.frame (h : FlEs w S f vd vs vq vx hs T) (hf : ∀ b,S b → w'.heap[b]? = w.heap[b]?) : FlEs w' S f vd vs vq vx hs T where
 ints:=h.ints
 small:=h.small
 size:=h.size
 st:=h.st.frame hf
 sq:=h.sq.frame hf
 row:=h.row.frame hf
 len:=h.len
 dat:=h.dat.frame fun b hb=>hf b (h.byt b hb).1
 each:=fun i h1 h2=>(h.each i h1 h2).frame fun b hb=>hf b (h.byt b hb).1
 byt:=fun b hb=>by
  obtain ⟨h1,⟨cs,t,h2⟩,h3⟩:=h.byt b hb
  exact ⟨h1,⟨cs,t,by rw [hf b h1];exact h2⟩,h3⟩
theorem FlEs.mono (h : FlEs w S f vd vs vq vx hs T) (hS : ∀ b,S b → S' b) : FlEs w S' f vd vs vq vx hs T where
 ints:=h.ints
 small:=h.small
 size:=h.size
 st:=h.st.mono hS
 sq:=h.sq.mono hS
 row:=h.row.mono hS
 len:=h.len
 dat:=h.dat
 each:=h.each
 byt:=fun b hb=>⟨hS b (h.byt b hb).1,(h.byt b hb).2⟩
def flE : ElemP FlTy.T 8 where
 E:=FlE
 frame:=by
  rintro w w' S x es ⟨vd,vs,vq,vx,hs,T,rfl,h⟩ hf
  exact ⟨vd,vs,vq,vx,hs,T,rfl,h.frame hf⟩
 mono:=by
  rintro w S S' x es ⟨vd,vs,vq,vx,hs,T,rfl,h⟩ hS
  exact ⟨vd,vs,vq,vx,hs,T,rfl,h.mono hS⟩
 len:=by rintro w S x es ⟨vd,vs,vq,vx,hs,T,rfl,h⟩;rfl
 plain:=by
  rintro w S x es ⟨vd,vs,vq,vx,hs,T,rfl,h⟩ u hu
  obtain ⟨A1,c1,rfl,_⟩:=h.dat.bytes
  obtain ⟨A2,c2,rfl⟩:=h.st.slice
  obtain ⟨A3,c3,rfl⟩:=h.sq.slice
  obtain ⟨A4,c4,rfl⟩:=h.row.slice
  unfold flCells at hu
  simp only [List.mem_cons,List.not_mem_nil,or_false] at hu
  rcases hu with rfl | rfl | rfl | rfl | rfl | rfl | rfl | rfl <;> rfl
theorem FlEs.rd (h : FlEs w S f vd vs vq vx hs T) : RdIn w (fun b=>S b ∧ Live w b) FlTy f (flCells f vd vs vq vx):=
 fl_mk h.ints (h.dat.mono fun b hb=>⟨(h.byt b hb).1,(h.byt b hb).2.1⟩) (h.st.rd h.size.1) (h.sq.rdq h.size.2.1 h.small) ((h.row.rdb h.len h.size.2.2 h.each).mono fun b hb=>by
  rcases hb with hb | hb
  · exact hb
  · exact ⟨(h.byt b hb).1,(h.byt b hb).2.1⟩)
theorem FlEs.bytes_set (h : FlEs w S f vd vs vq vx hs T) {g i : Nat} {u : Value} (hg : ∀ b,T b → b ≠ g) {bs : List UInt8} {v : Value} (hr : RdIn w T (.sl .byte) bs [v]) : RdIn (w.setCell ⟨g,i,none⟩ u) T (.sl .byte) bs [v]:=
 hr.frame fun b hb=>Below.heap_setCell _ _ _ _ (hg b hb)
theorem live_set {b : Nat} (h : Live w b) (a : Addr) (u : Value) : Live (w.setCell a u) b:=h.set _ _
theorem FlEs.setS {g n c i : Nat} (h : FlEs w S f vd (.slice (some ⟨g,0,none⟩) n c) vq vx hs T) (hi : i < (fS f).length) (s : UInt8) : FlEs (w.setCell ⟨g,i,none⟩ (byteV s)) S (fSetS f i s) vd (.slice (some ⟨g,0,none⟩) n c) vq vx hs T:=by
 have hg : ∀ b,T b → b ≠ g:=fun b hb e=>(h.byt b hb).2.2.1 (by rw [e];rfl)
 obtain ⟨g',cap,cur,e,_,hB,_⟩:=h.st.at (i:=i) (by simpa using hi)
 injection e with e1 _ _
 injection e1 with e1
 injection e1 with e1 _ _
 subst e1
 exact {
  ints:=h.ints
  small:=h.small
  size:=⟨by show ((fS f).set i s).length ≤ _;rw [List.length_set];exact h.size.1,h.size.2⟩
  st:=by
   have h1:=h.st.set (i:=i) (by simpa using hi) (byteV s)
   show NumRow _ _ _ _ (((fS f).set i s).map byteV)
   rw [List.map_set]
   exact h1
  sq:=h.sq.setElse hB (by decide) i _
  row:=h.row.setElse hB (by decide) i _
  len:=h.len
  dat:=h.bytes_set hg h.dat
  each:=fun k h1 h2=>h.bytes_set hg (h.each k h1 h2)
  byt:=fun b hb=>⟨(h.byt b hb).1,live_set (h.byt b hb).2.1 _ _,(h.byt b hb).2.2⟩ }
theorem FlEs.setQ {g n c i : Nat} (h : FlEs w S f vd vs (.slice (some ⟨g,0,none⟩) n c) vx hs T) (hi : i < (fQ f).length) (q : Nat) (hq : q < 2 ^ 32) : FlEs (w.setCell ⟨g,i,none⟩ (seqV q)) S (fSetQ f i q) vd vs (.slice (some ⟨g,0,none⟩) n c) vx hs T:=by
 have hg : ∀ b,T b → b ≠ g:=fun b hb e=>(h.byt b hb).2.2.2.1 (by rw [e];rfl)
 obtain ⟨g',cap,cur,e,_,hB,_⟩:=h.sq.at (i:=i) (by simpa using hi)
 injection e with e1 _ _
 injection e1 with e1
 injection e1 with e1 _ _
 subst e1
 exact {
  ints:=h.ints
  small:=fun z hz=>by
   have hz' : z ∈ (fQ f).set i q:=hz
   rcases List.mem_or_eq_of_mem_set hz' with h1 | h1
   · exact h.small z h1
   · rw [h1];exact hq
  size:=⟨h.size.1,by show ((fQ f).set i q).length * 4 ≤ _;rw [List.length_set];exact h.size.2.1,h.size.2.2⟩
  st:=h.st.setElse hB (by decide) i _
  sq:=by
   have h1:=h.sq.set (i:=i) (by simpa using hi) (seqV q)
   show NumRow _ _ _ _ (((fQ f).set i q).map seqV)
   rw [List.map_set]
   exact h1
  row:=h.row.setElse hB (by decide) i _
  len:=h.len
  dat:=h.bytes_set hg h.dat
  each:=fun k h1 h2=>h.bytes_set hg (h.each k h1 h2)
  byt:=fun b hb=>⟨(h.byt b hb).1,live_set (h.byt b hb).2.1 _ _,(h.byt b hb).2.2⟩ }
theorem FlEs.setB {g n c i : Nat} (h : FlEs w S f vd vs vq (.slice (some ⟨g,0,none⟩) n c) hs T) (hi : i < (fB f).length) {d : List UInt8} {u : Value} {S' : Nat → Prop} (hr : RdIn w S' (.sl .byte) d [u]) (hS : ∀ b,S' b → ¬ S b ∧ Live w b) (hown : ∀ b,(vs.ownBlock = some b ∨ vq.ownBlock = some b) → S b) : FlEs (w.setCell ⟨g,i,none⟩ u) (fun b=>S b ∨ S' b) (fSetB f i d) vd vs vq (.slice (some ⟨g,0,none⟩) n c) (hs.set i u) (fun b=>T b ∨ S' b):=by
 have hlen:=h.len
 have hih : i < hs.length:=by omega
 obtain ⟨g',cap,cur,e,hSg,hB,_⟩:=h.row.at hih
 injection e with e1 _ _
 injection e1 with e1
 injection e1 with e1 _ _
 subst e1
 have hg : ∀ b,T b → b ≠ g:=fun b hb e=>(h.byt b hb).2.2.2.2 (by rw [e];rfl)
 have hg' : ∀ b,S' b → b ≠ g:=fun b hb e=>(hS b hb).1 (by rw [e];exact hSg)
 exact {
  ints:=h.ints
  small:=h.small
  size:=⟨h.size.1,h.size.2.1,by show ((fB f).set i d).length * 24 ≤ _;rw [List.length_set];exact h.size.2.2⟩
  st:=(h.st.setElse hB (by decide) i _).mono fun b hb=>.inl hb
  sq:=(h.sq.setElse hB (by decide) i _).mono fun b hb=>.inl hb
  row:=(h.row.set hih u).mono fun b hb=>.inl hb
  len:=by show (hs.set i u).length = ((fB f).set i d).length;rw [List.length_set,List.length_set];exact h.len
  dat:=(h.bytes_set hg h.dat).mono fun b hb=>.inl hb
  each:=fun k h1 h2=>by
   have h1' : k < hs.length:=by rw [List.length_set] at h1;exact h1
   have h2' : k < (fB f).length:=by omega
   show RdIn _ _ (.sl .byte) (((fB f).set i d)[k]'(by rw [List.length_set];exact h2')) [(hs.set i u)[k]]
   by_cases hk : i = k
   · subst hk
     rw [List.getElem_set_self,List.getElem_set_self]
     exact (hr.frame fun b hb=>Below.heap_setCell _ _ _ _ (hg' b hb)).mono fun b hb=>.inr hb
   · rw [List.getElem_set_ne hk,List.getElem_set_ne hk]
     exact (h.bytes_set hg (h.each k h1' h2')).mono fun b hb=>.inl hb
  byt:=fun b hb=>by
   rcases hb with hb | hb
   · exact ⟨.inl (h.byt b hb).1,live_set (h.byt b hb).2.1 _ _,(h.byt b hb).2.2⟩
   · refine ⟨.inr hb,live_set (hS b hb).2 _ _,fun e=>(hS b hb).1 (hown b (.inl e)),fun e=>(hS b hb).1 (hown b (.inr e)),fun e=>hg' b hb ?_⟩
     exact (Option.some.inj e).symm }
theorem FlEs.own (h : FlEs w S f vd vs vq vx hs T) : ∀ b,(vs.ownBlock = some b ∨ vq.ownBlock = some b) → S b:=by
 rintro b (e | e)
 · obtain ⟨_,_,_,_,_,h3,_⟩:=h.st
   exact h3 b e
 · obtain ⟨_,_,_,_,_,h3,_⟩:=h.sq
   exact h3 b e
end
section
variable {α : Type} {n : Nat} {P : ElemP α n} {w : World} {F : Nat → Prop} {base : Nat} {tid : TypeId} {v : Value} {xs : List α}
theorem OwnE.at (h : OwnE P w F base tid v xs) {j : Nat} (hj : j < xs.length) : ∃ (g cap : Nat) (es : List Value) (Sj : Nat → Prop),v = .slice (some ⟨g,0,none⟩) xs.length cap ∧ (F g ∧ base ≤ g ∧ g < w.heap.size) ∧ (∀ q,q < n → w.cell? ⟨g,j * n + q,none⟩ = es[q]?) ∧ P.E w Sj xs[j] es ∧ (∀ b,Sj b → F b ∧ b ≠ g) ∧
 ∀ (w' : World) (S' : Nat → Prop) (y : α),P.E w' (fun b=>Sj b ∨ S' b) y es → (∀ b,F b → ¬ Sj b → w'.heap[b]? = w.heap[b]?) → (∀ b,S' b → ¬ F b) → OwnE P w' (fun b=>F b ∨ S' b) base tid v (xs.set j y):=by
 obtain ⟨ess,Sf,h1,h2,h3,h4,h5,h6⟩:=h
 obtain ⟨g,cap,cur,rfl,hg,hB,hc1,hc2,hc3,hc4⟩:=own_view h6 (by omega)
 have hes : ∀ es ∈ ess,es.length = n:=by
  intro es he
  obtain ⟨i,hi,rfl⟩:=List.getElem_of_mem he
  exact P.len (h2 i (by omega) hi)
 have hjl : j < ess.length:=by omega
 refine ⟨g,cap,ess[j],Sf j,rfl,⟨h5 g rfl,hg,hB.lt⟩,fun q hq=>?_,h2 j hj hjl,fun b hb=>⟨(h3 j b hb).1,fun e=>(h3 j b hb).2 (by rw [e];rfl)⟩,fun w' S' y hy hf hS'=>?_⟩
 · have h7:=flatten_at ess hes j q hq
   rw [List.getElem?_eq_getElem hjl] at h7
   rw [hB.cell]
   have h9 : j * n + q < xs.length * n:=by
    have h10 : j * n + n ≤ xs.length * n:=by
     rw [← Nat.succ_mul]
     exact Nat.mul_le_mul_right n hj
    omega
   rw [hc4 _ h9,h7]
   rfl
 · refine ⟨ess,fun i b=>if i = j then Sf j b ∨ S' b else Sf i b,by rw [List.length_set];exact h1,fun i hi hi'=>?_,fun i b hb=>?_,fun i k b hi hk=>?_,fun r hr=>.inl (h5 r hr),?_⟩
   · rw [List.length_set] at hi
     by_cases e : i = j
     · subst e
       rw [List.getElem_set_self]
       simp only [if_true]
       exact hy
     · rw [List.getElem_set_ne (fun h=>e h.symm)]
       simp only [if_neg e]
       refine P.frame (h2 i hi hi') fun b hb=>hf b (h3 i b hb).1 fun hb'=>e (h4 i j b hb hb')
   · by_cases e : i = j
     · simp only [if_pos e] at hb
       rcases hb with hb | hb
       · exact ⟨.inl (h3 j b hb).1,(h3 j b hb).2⟩
       · exact ⟨.inr hb,fun e'=>hS' b hb (h5 b e')⟩
     · simp only [if_neg e] at hb
       exact ⟨.inl (h3 i b hb).1,(h3 i b hb).2⟩
   · have hFS : ∀ i b,Sf i b → S' b → False:=fun i b h1 h2=>hS' b h2 (h3 i b h1).1
     by_cases ei : i = j <;> by_cases ek : k = j
     · rw [ei,ek]
     · simp only [if_pos ei,if_neg ek] at hi hk
       rcases hi with hi | hi
       · exact ei.trans (h4 j k b hi hk)
       · exact (hFS k b hk hi).elim
     · simp only [if_neg ei,if_pos ek] at hi hk
       rcases hk with hk | hk
       · exact (h4 i j b hi hk).trans ek.symm
       · exact (hFS i b hi hk).elim
     · simp only [if_neg ei,if_neg ek] at hi hk
       exact h4 i k b hi hk
   · rw [List.length_set]
     exact own_frame h6 fun r hr=>hf r (h5 r hr) fun h=>(h3 j r h).2 hr
end
theorem OwnE.fl_rd {w : World} {lo base : Nat} {v : Value} {fs : List FlTy.T} (h : OwnE flE w (Iv lo w.heap.size) base 67 v fs) (hz : fs.length * 128 ≤ 140737488355328) : RdIn w (NewB lo w) (.sl FlTy) fs [v]:=by
 obtain ⟨A,c,e⟩:=h.slice
 rcases Nat.eq_zero_or_pos fs.length with h0 | h0
 · subst e
   have hc : fs.length ≤ c ∧ c ≤ maxLen:=by
    obtain ⟨_,_,ho⟩:=h.own
    rcases ho.2 with ⟨e1,_⟩ | ⟨g,cap,cur,e1,_,_,h1,h2,_⟩
    · injection e1 with _ _ e1
      subst e1
      exact ⟨by omega,by unfold maxLen;omega⟩
    · injection e1 with _ _ e1
      subst e1
      exact ⟨h1,h2⟩
   exact rdin_sl.2 ⟨A,c,rfl,hc.1,hc.2,hz,.inl (List.eq_nil_of_length_eq_zero h0)⟩
 · obtain ⟨ess,Sf,h1,h2,h3,h4,h5,h6⟩:=h
   obtain ⟨g,cap,cur,rfl,hg,hB,hc1,hc2,hc3,hc4⟩:=own_view h6 h0
   have hes : ∀ es ∈ ess,es.length = 8:=by
    intro es he
    obtain ⟨i,hi,rfl⟩:=List.getElem_of_mem he
    exact flE.len (h2 i (by omega) hi)
   refine rdin_sl.2 ⟨_,cap,rfl,hc1,hc2,hz,.inr ⟨g,0,rfl,⟨(h5 g rfl).1,(h5 g rfl).2,_,_,hB⟩,fun i hi=>?_⟩⟩
   have hi' : i < fs.length:=hi
   refine ⟨ess[i]'(by omega),fun q hq=>?_,?_⟩
   · have hq8 : q < 8:=hq
     have h7:=flatten_at ess hes i q hq8
     rw [List.getElem?_eq_getElem (show i < ess.length by omega)] at h7
     show w.cell? ⟨g,0 + i * 8 + q,none⟩ = _
     rw [Nat.zero_add,hB.cell,hc4 _ (by omega),h7]
     rfl
   · obtain ⟨vd,vs,vq,vx,hs,T,e,hE⟩:=h2 i hi' (by omega)
     rw [e]
     exact hE.rd.mono fun b hb=>⟨(h3 i b hb.1).1.1,(h3 i b hb.1).1.2,hb.2⟩
end Go.Proofs.Ythapabjlhooglaa
namespace Go.Proofs.Ythapabjlhooglaa
open Go Go.RowKit
set_option linter.unusedSimpArgs false
set_option linter.unusedVariables false
theorem minfo_u32 : ∃ i,Try.prog.info? 22 = some i ∧ i.zero = some (.int .u32 0) ∧ i.size = 1 ∧ i.bytes = 4:=info_parts (by kernel_rfl)
theorem minfo_flight : ∃ i,Try.prog.info? 67 = some i ∧ i.zero = some (.agg #[.int .i64 0,.int .u8 0,.int .i64 0,.int .i64 0,.slice none 0 0,.slice none 0 0,.slice none 0 0,.slice none 0 0]) ∧ i.size = 8 ∧ i.bytes = 128:=info_parts (by kernel_rfl)
set_option maxRecDepth 100000 in
set_option maxHeartbeats 1000000 in
theorem cln_u8 (xs : List Value) (A : Option Addr) (n c : Nat) (hn : xs.length = n) (hm : n ≤ maxLen) (hz : n * 1 ≤ 140737488355328) (hpl : ∀ u ∈ xs,u.oneCell' = true) (w : World) (hr : Rd w A xs) :
 Calls Try.prog 46 #[.slice A n c] w fun e w'=>(∃ v,e = .returned v ∧ NumRow w' (Iv w.heap.size w'.heap.size) 5 v xs) ∧ Below w.heap.size w w':=by
 obtain ⟨i0,hi,hz0,hz1,hz2⟩:=minfo_u8
 have HM:=Lib.hid (And.intro hm hz)
 have HPL:=Lib.hid hpl
 clear hm hz hpl
 subst hn
 cases A with
 | none=>
   have hb0 : xs = []:=by
    rcases hr with h0 | ⟨b,off,e,_⟩
    · exact h0
    · cases e
   subst hb0
   have HE : ∀ (w : World) (c : Nat),(binOp .eql 26 (.slice none 0 c) (.slice none 0 0)).run Try.prog w = .ok (.bool true) w:=fun w c=>by kernel_rfl
   clear hr
   go_enter Try.func46,Try.ntmps46
   go_wp2
   go_ret
   exact ⟨⟨_,rfl,none,0,rfl,Nat.le_refl _,by unfold maxLen;omega,fun g h=>(by cases h),.inl rfl⟩,Below.refl _ _⟩
 | some a=>
   have t0:=Ext.alloc (Below.refl w.heap.size w) (.cells #[] 5)
   have hrd : Rd (w.alloc (.cells #[] 5)) (some a) xs:=hr.below t0
   have own0 : (w.alloc (.cells #[] 5)).ownsRow w.heap.size 5 1 (.slice (some ⟨w.heap.size,0,none⟩) 0 0) 0 []:=⟨rfl,.inr ⟨w.heap.size,0,#[],rfl,Nat.le_refl _,heap_alloc_new _ _,Nat.le_refl _,by unfold maxLen;omega,rfl,rfl⟩⟩
   have HE : ∀ (w : World) (n c : Nat),(binOp .eql 26 (.slice (some a) n c) (.slice none 0 0)).run Try.prog w = .ok (.bool false) w:=fun w n c=>by kernel_rfl
   clear hr
   go_enter Try.func46,Try.ntmps46
   go_upto_region 3 with fail
   go_wp2_with (at_builtin;refine wpList_append_rd _ rfl (.tmp 5) (.tmp 6) 26 rfl w.heap.size 5 i0 _ 1 1 Try.underlying26 hi hz0 hz1 hz2 rfl (by decide) _ 0 [] rfl own0 (some a) xs.length c xs rfl (by simp) hrd HPL.out (by have:=HM.out.1;omega) (by have:=HM.out.2;omega) (by simp) ?_;intro v1 w1 h2 h3 h4)
   rw [Nat.zero_add,List.nil_append] at h2
   have b1:=Below.grown t0 h3 (by simp) (fun k e=>by cases e;exact Nat.le_refl _)
   have hm : NumRow w1 (Iv w.heap.size w1.heap.size) 5 v1 xs:=by
    rcases h2.2 with ⟨rfl,h0⟩ | ⟨g,cap,cur,rfl,hg,hh,h5,h6,h7,h8⟩
    · exact ⟨none,0,by rw [h0],by omega,by unfold maxLen;omega,fun g h=>(by cases h),.inl (List.eq_nil_of_length_eq_zero h0)⟩
    · exact ⟨_,cap,rfl,h5,h6,fun g' e=>by cases e;exact ⟨hg,(Array.getElem?_eq_some_iff.1 hh).1⟩,.inr ⟨g,cur,rfl,hh,by rw [Nat.mul_one] at h8;exact h8⟩⟩
   go_ret
   exact ⟨⟨_,rfl,hm⟩,b1⟩
set_option maxRecDepth 100000 in
set_option maxHeartbeats 1000000 in
theorem cln_u32 (xs : List Value) (A : Option Addr) (n c : Nat) (hn : xs.length = n) (hm : n ≤ maxLen) (hz : n * 4 ≤ 140737488355328) (hpl : ∀ u ∈ xs,u.oneCell' = true) (w : World) (hr : Rd w A xs) :
 Calls Try.prog 47 #[.slice A n c] w fun e w'=>(∃ v,e = .returned v ∧ NumRow w' (Iv w.heap.size w'.heap.size) 22 v xs) ∧ Below w.heap.size w w':=by
 obtain ⟨i0,hi,hz0,hz1,hz2⟩:=minfo_u32
 have HM:=Lib.hid (And.intro hm hz)
 have HPL:=Lib.hid hpl
 clear hm hz hpl
 subst hn
 cases A with
 | none=>
   have hb0 : xs = []:=by
    rcases hr with h0 | ⟨b,off,e,_⟩
    · exact h0
    · cases e
   subst hb0
   have HE : ∀ (w : World) (c : Nat),(binOp .eql 64 (.slice none 0 c) (.slice none 0 0)).run Try.prog w = .ok (.bool true) w:=fun w c=>by kernel_rfl
   clear hr
   go_enter Try.func47,Try.ntmps47
   go_wp2
   go_ret
   exact ⟨⟨_,rfl,none,0,rfl,Nat.le_refl _,by unfold maxLen;omega,fun g h=>(by cases h),.inl rfl⟩,Below.refl _ _⟩
 | some a=>
   have t0:=Ext.alloc (Below.refl w.heap.size w) (.cells #[] 22)
   have hrd : Rd (w.alloc (.cells #[] 22)) (some a) xs:=hr.below t0
   have own0 : (w.alloc (.cells #[] 22)).ownsRow w.heap.size 22 1 (.slice (some ⟨w.heap.size,0,none⟩) 0 0) 0 []:=⟨rfl,.inr ⟨w.heap.size,0,#[],rfl,Nat.le_refl _,heap_alloc_new _ _,Nat.le_refl _,by unfold maxLen;omega,rfl,rfl⟩⟩
   have HE : ∀ (w : World) (n c : Nat),(binOp .eql 64 (.slice (some a) n c) (.slice none 0 0)).run Try.prog w = .ok (.bool false) w:=fun w n c=>by kernel_rfl
   clear hr
   go_enter Try.func47,Try.ntmps47
   go_upto_region 3 with fail
   go_wp2_with (at_builtin;refine wpList_append_rd _ rfl (.tmp 5) (.tmp 6) 64 rfl w.heap.size 22 i0 _ 1 4 Try.underlying64 hi hz0 hz1 hz2 rfl (by decide) _ 0 [] rfl own0 (some a) xs.length c xs rfl (by simp) hrd HPL.out (by have:=HM.out.1;omega) (by have:=HM.out.2;omega) (by simp) ?_;intro v1 w1 h2 h3 h4)
   rw [Nat.zero_add,List.nil_append] at h2
   have b1:=Below.grown t0 h3 (by simp) (fun k e=>by cases e;exact Nat.le_refl _)
   have hm : NumRow w1 (Iv w.heap.size w1.heap.size) 22 v1 xs:=by
    rcases h2.2 with ⟨rfl,h0⟩ | ⟨g,cap,cur,rfl,hg,hh,h5,h6,h7,h8⟩
    · exact ⟨none,0,by rw [h0],by omega,by unfold maxLen;omega,fun g h=>(by cases h),.inl (List.eq_nil_of_length_eq_zero h0)⟩
    · exact ⟨_,cap,rfl,h5,h6,fun g' e=>by cases e;exact ⟨hg,(Array.getElem?_eq_some_iff.1 hh).1⟩,.inr ⟨g,cur,rfl,hh,by rw [Nat.mul_one] at h8;exact h8⟩⟩
   go_ret
   exact ⟨⟨_,rfl,hm⟩,b1⟩
set_option maxRecDepth 100000 in
set_option maxHeartbeats 1000000 in
theorem cln_row (xs : List Value) (A : Option Addr) (n c : Nat) (hn : xs.length = n) (hm : n ≤ maxLen) (hz : n * 24 ≤ 140737488355328) (hpl : ∀ u ∈ xs,u.oneCell' = true) (w : World) (hr : Rd w A xs) :
 Calls Try.prog 48 #[.slice A n c] w fun e w'=>(∃ v,e = .returned v ∧ NumRow w' (Iv w.heap.size w'.heap.size) 26 v xs) ∧ Below w.heap.size w w':=by
 obtain ⟨i0,hi,hz0,hz1,hz2⟩:=minfo_bytes
 have HM:=Lib.hid (And.intro hm hz)
 have HPL:=Lib.hid hpl
 clear hm hz hpl
 subst hn
 cases A with
 | none=>
   have hb0 : xs = []:=by
    rcases hr with h0 | ⟨b,off,e,_⟩
    · exact h0
    · cases e
   subst hb0
   have HE : ∀ (w : World) (c : Nat),(binOp .eql 65 (.slice none 0 c) (.slice none 0 0)).run Try.prog w = .ok (.bool true) w:=fun w c=>by kernel_rfl
   clear hr
   go_enter Try.func48,Try.ntmps48
   go_wp2
   go_ret
   exact ⟨⟨_,rfl,none,0,rfl,Nat.le_refl _,by unfold maxLen;omega,fun g h=>(by cases h),.inl rfl⟩,Below.refl _ _⟩
 | some a=>
   have t0:=Ext.alloc (Below.refl w.heap.size w) (.cells #[] 26)
   have hrd : Rd (w.alloc (.cells #[] 26)) (some a) xs:=hr.below t0
   have own0 : (w.alloc (.cells #[] 26)).ownsRow w.heap.size 26 1 (.slice (some ⟨w.heap.size,0,none⟩) 0 0) 0 []:=⟨rfl,.inr ⟨w.heap.size,0,#[],rfl,Nat.le_refl _,heap_alloc_new _ _,Nat.le_refl _,by unfold maxLen;omega,rfl,rfl⟩⟩
   have HE : ∀ (w : World) (n c : Nat),(binOp .eql 65 (.slice (some a) n c) (.slice none 0 0)).run Try.prog w = .ok (.bool false) w:=fun w n c=>by kernel_rfl
   clear hr
   go_enter Try.func48,Try.ntmps48
   go_upto_region 3 with fail
   go_wp2_with (at_builtin;refine wpList_append_rd _ rfl (.tmp 5) (.tmp 6) 65 rfl w.heap.size 26 i0 _ 1 24 Try.underlying65 hi hz0 hz1 hz2 rfl (by decide) _ 0 [] rfl own0 (some a) xs.length c xs rfl (by simp) hrd HPL.out (by have:=HM.out.1;omega) (by have:=HM.out.2;omega) (by simp) ?_;intro v1 w1 h2 h3 h4)
   rw [Nat.zero_add,List.nil_append] at h2
   have b1:=Below.grown t0 h3 (by simp) (fun k e=>by cases e;exact Nat.le_refl _)
   have hm : NumRow w1 (Iv w.heap.size w1.heap.size) 26 v1 xs:=by
    rcases h2.2 with ⟨rfl,h0⟩ | ⟨g,cap,cur,rfl,hg,hh,h5,h6,h7,h8⟩
    · exact ⟨none,0,by rw [h0],by omega,by unfold maxLen;omega,fun g h=>(by cases h),.inl (List.eq_nil_of_length_eq_zero h0)⟩
    · exact ⟨_,cap,rfl,h5,h6,fun g' e=>by cases e;exact ⟨hg,(Array.getElem?_eq_some_iff.1 hh).1⟩,.inr ⟨g,cur,rfl,hh,by rw [Nat.mul_one] at h8;exact h8⟩⟩
   go_ret
   exact ⟨⟨_,rfl,hm⟩,b1⟩
theorem heads_of {w : World} {S : Nat → Prop} {ds : List (List UInt8)} {A : Option Addr} {n c : Nat} (h : RdIn w S (.sl (.sl .byte)) ds [.slice A n c]) : ∃ hs : List Value,hs.length = ds.length ∧ ds.length = n ∧ Rd w A hs ∧ (∀ u ∈ hs,u.oneCell' = true) ∧ ∀ i (h : i < hs.length) (h' : i < ds.length),RdIn w S (.sl .byte) ds[i] [hs[i]]:=by
 have each : ∀ i,i < ds.length → ∃ u : Value,∃ h' : i < ds.length,RdIn w S (.sl .byte) ds[i] [u] ∧ ∀ b off,A = some ⟨b,off,none⟩ → w.cell? ⟨b,off + i,none⟩ = some u:=by
  intro i hi
  have hn : n = ds.length:=by
   obtain ⟨_,_,h0,_⟩:=rdin_sl.1 h
   injection h0 with h0 _
   injection h0
  rw [hn] at h
  obtain ⟨b,off,A2,c2,rfl,k1,k2⟩:=val_at h hi
  exact ⟨_,hi,k2,fun b' off' e=>by
   injection e with e
   injection e with e1 e2 _
   rw [← e1,← e2];exact k1⟩
 obtain ⟨hs,hl,hh⟩:=choose_list (R:=fun i u=>∃ h' : i < ds.length,RdIn w S (.sl .byte) ds[i] [u] ∧ ∀ b off,A = some ⟨b,off,none⟩ → w.cell? ⟨b,off + i,none⟩ = some u) ds.length each
 obtain ⟨A',c',h0,_,_,_,h4⟩:=rdin_sl.1 h
 injection h0 with h0 _
 injection h0 with h01 h02 h03
 refine ⟨hs,hl,h02.symm,?_,fun u hu=>?_,fun i h1 h2=>by obtain ⟨_,h3,_⟩:=hh i h1;exact h3⟩
 · rcases h4 with h4 | ⟨b,off,hA,_⟩
   · have h5 : ds = []:=h4
     exact .inl (List.eq_nil_of_length_eq_zero (by rw [hl,h5];rfl))
   · refine .inr ⟨b,off,h01.trans hA,fun j hj=>?_⟩
     obtain ⟨_,_,h5⟩:=hh j hj
     rw [List.getElem?_eq_getElem hj]
     exact h5 b off (h01.trans hA)
 · obtain ⟨i,hi,rfl⟩:=List.getElem_of_mem hu
   obtain ⟨_,h3,_⟩:=hh i hi
   obtain ⟨A2,c2,e2⟩:=bytesV h3
   rw [e2];rfl
def TW (w : World) (lo : Nat) (vs vq vx : Value) (b : Nat) : Prop:=(Iv (lo + 1) w.heap.size b ∧ Live w b) ∧ vs.ownBlock ≠ some b ∧ vq.ownBlock ≠ some b ∧ vx.ownBlock ≠ some b
structure TwIn (w : World) (lo : Nat) (g : FlTy.T) (vd vs vq vx : Value) (hs0 hs : List Value) (j : Nat) : Prop where
 st : NumRow w (Iv (lo + 1) w.heap.size) 5 vs ((fS g).map byteV)
 sq : NumRow w (Iv (lo + 1) w.heap.size) 22 vq ((fQ g).map seqV)
 row : NumRow w (Iv (lo + 1) w.heap.size) 26 vx hs
 len : hs.length = (fB g).length
 old : ∀ i,j ≤ i → hs[i]? = hs0[i]?
 dat : RdIn w (TW w lo vs vq vx) (.sl .byte) (fD g) [vd]
 new : ∀ i (h : i < hs.length) (h' : i < (fB g).length),i < j → RdIn w (TW w lo vs vq vx) (.sl .byte) (fB g)[i] [hs[i]]
theorem NumRow.below {w w' : World} {lo : Nat} {tid : TypeId} {v : Value} {xs : List Value} (h : NumRow w (Iv lo w.heap.size) tid v xs) (hb : Below w.heap.size w w') : NumRow w' (Iv lo w'.heap.size) tid v xs:=
 (h.frame fun b hb'=>hb.block b hb'.2).mono fun b hb'=>⟨hb'.1,Nat.lt_of_lt_of_le hb'.2 hb.size⟩
theorem TW.below {w w' : World} {lo : Nat} {vs vq vx : Value} {b : Nat} (h : TW w lo vs vq vx b) (hb : Below w.heap.size w w') : TW w' lo vs vq vx b:=
 ⟨⟨⟨h.1.1.1,Nat.lt_of_lt_of_le h.1.1.2 hb.size⟩,h.1.2.below hb⟩,h.2⟩
section
variable {w : World} {lo : Nat} {g : FlTy.T} {vd vs vq vx : Value} {hs0 hs : List Value} {j : Nat}
theorem TwIn.next (h : TwIn w lo g vd vs vq vx hs0 hs j) {w' : World} (hb : Below w.heap.size w w') : TwIn w' lo g vd vs vq vx hs0 hs j where
 st:=h.st.below hb
 sq:=h.sq.below hb
 row:=h.row.below hb
 len:=h.len
 old:=h.old
 dat:=(h.dat.below hb).mono fun b hb'=>hb'.below hb
 new:=fun i h1 h2 h3=>((h.new i h1 h2 h3).below hb).mono fun b hb'=>hb'.below hb
theorem NumRow.own_lt {w : World} {lo hi : Nat} {tid : TypeId} {v : Value} {xs : List Value} (h : NumRow w (Iv lo hi) tid v xs) {b : Nat} (hb : hi ≤ b) : v.ownBlock ≠ some b:=fun e=>by
 obtain ⟨_,_,_,_,_,h3,_⟩:=h
 have:=(h3 b e).2
 omega
theorem TwIn.put {R c n : Nat} (h : TwIn w lo g vd vs vq (.slice (some ⟨R,0,none⟩) n c) hs0 hs j) {w' : World} (hb : Below w.heap.size w w') {u : Value} (hj : j < hs.length) (hj' : j < (fB g).length) (hu : RdIn w' (NewB w.heap.size w') (.sl .byte) (fB g)[j] [u]) (hlo : lo < w.heap.size) :
 TwIn (w'.setCell ⟨R,j,none⟩ u) lo g vd vs vq (.slice (some ⟨R,0,none⟩) n c) hs0 (hs.set j u) (j + 1):=by
 have hn:=h.next hb
 obtain ⟨R',cap,cur,e,hR,hB,_⟩:=hn.row.at hj
 injection e with e1 _ _
 injection e1 with e1
 injection e1 with e1 _ _
 subst e1
 obtain ⟨R2,cap2,cur2,e2,hR2,_⟩:=h.row.at hj
 injection e2 with e1 _ _
 injection e1 with e1
 injection e1 with e1 _ _
 subst e1
 have hne : ∀ b,TW w' lo vs vq (.slice (some ⟨R,0,none⟩) n c) b → b ≠ R:=fun b hb' e=>hb'.2.2.2 (by rw [e];rfl)
 have htw : ∀ b,TW w' lo vs vq (.slice (some ⟨R,0,none⟩) n c) b → TW (w'.setCell ⟨R,j,none⟩ u) lo vs vq (.slice (some ⟨R,0,none⟩) n c) b:=fun b hb'=>⟨⟨⟨hb'.1.1.1,by rw [msize];exact hb'.1.1.2⟩,live_set hb'.1.2 _ _⟩,hb'.2⟩
 have hIv : ∀ b,Iv (lo + 1) w'.heap.size b → Iv (lo + 1) (w'.setCell ⟨R,j,none⟩ u).heap.size b:=fun b hb'=>by rw [msize];exact hb'
 exact {
  st:=(hn.st.setElse hB (by decide) j u).mono hIv
  sq:=(hn.sq.setElse hB (by decide) j u).mono hIv
  row:=(hn.row.set hj u).mono hIv
  len:=by rw [List.length_set];exact h.len
  old:=fun i hi=>by rw [List.getElem?_set_ne (by omega)];exact h.old i (by omega)
  dat:=(hn.dat.frame fun b hb'=>Below.heap_setCell _ _ _ _ (hne b hb')).mono htw
  new:=fun i h1 h2 h3=>by
   by_cases e : j = i
   · subst e
     rw [List.getElem_set_self]
     refine (hu.frame fun b hb'=>Below.heap_setCell _ _ _ _ (show b ≠ R by have:=hb'.1;have:=hR2.2;omega)).mono fun b hb'=>?_
     refine ⟨⟨⟨by have:=hb'.1;omega,by rw [msize];exact hb'.2.1⟩,live_set hb'.2.2 _ _⟩,h.st.own_lt hb'.1,h.sq.own_lt hb'.1,h.row.own_lt hb'.1⟩
   · rw [List.getElem_set_ne e]
     have h1' : i < hs.length:=by rw [List.length_set] at h1;exact h1
     exact ((hn.new i h1' h2 (by omega)).frame fun b hb'=>Below.heap_setCell _ _ _ _ (hne b hb')).mono htw }
theorem TwIn.done (h : TwIn w lo g vd vs vq vx hs0 hs j) (hj : (fB g).length ≤ j) (hi : IsInt (fN g) ∧ IsInt (fA g) ∧ IsInt (fM g)) (hq : ∀ q ∈ fQ g,q < 2 ^ 32) (hz : (fS g).length ≤ 140737488355328 ∧ (fQ g).length * 4 ≤ 140737488355328 ∧ (fB g).length * 24 ≤ 140737488355328) : FlEs w (Iv lo w.heap.size) g vd vs vq vx hs (TW w lo vs vq vx) where
 ints:=hi
 small:=hq
 size:=hz
 st:=h.st.mono fun b hb=>⟨by have:=hb.1;omega,hb.2⟩
 sq:=h.sq.mono fun b hb=>⟨by have:=hb.1;omega,hb.2⟩
 row:=h.row.mono fun b hb=>⟨by have:=hb.1;omega,hb.2⟩
 len:=h.len
 dat:=h.dat
 each:=fun i h1 h2=>h.new i h1 h2 (by omega)
 byt:=fun b hb=>⟨⟨by have:=hb.1.1.1;omega,hb.1.1.2⟩,hb.1.2,hb.2⟩
end
end Go.Proofs.Ythapabjlhooglaa
namespace Go.Proofs.Ythapabjlhooglaa
open Go Go.RowKit
set_option linter.unusedSimpArgs false
set_option linter.unusedVariables false
theorem NumRow.own_gt {w : World} {lo hi : Nat} {tid : TypeId} {v : Value} {xs : List Value} (h : NumRow w (Iv lo hi) tid v xs) {b : Nat} (hb : b < lo) : v.ownBlock ≠ some b:=fun e=>by
 obtain ⟨_,_,_,_,_,h3,_⟩:=h
 have:=(h3 b e).1
 omega
theorem NumRow.setLo {w : World} {lo : Nat} {tid : TypeId} {v : Value} {xs : List Value} (h : NumRow w (Iv (lo + 1) w.heap.size) tid v xs) (i : Nat) (u : Value) : NumRow (w.setCell ⟨lo,i,none⟩ u) (Iv (lo + 1) (w.setCell ⟨lo,i,none⟩ u).heap.size) tid v xs:=by
 rw [msize]
 exact h.frame fun b hb=>Below.heap_setCell _ _ _ _ (show b ≠ lo by have:=hb.1;omega)
theorem TW.setLo {w : World} {lo : Nat} {vs vq vx : Value} {b : Nat} (h : TW w lo vs vq vx b) (i : Nat) (u : Value) : TW (w.setCell ⟨lo,i,none⟩ u) lo vs vq vx b:=
 ⟨⟨by rw [msize];exact h.1.1,live_set h.1.2 _ _⟩,h.2⟩
theorem RdIn.setTW {w : World} {lo : Nat} {vs vq vx : Value} {t : Ty} {x : t.T} {cs : List Value} (h : RdIn w (TW w lo vs vq vx) t x cs) (i : Nat) (u : Value) : RdIn (w.setCell ⟨lo,i,none⟩ u) (TW (w.setCell ⟨lo,i,none⟩ u) lo vs vq vx) t x cs:=
 (h.frame fun b hb=>Below.heap_setCell _ _ _ _ (show b ≠ lo by have:=hb.1.1.1;omega)).mono fun b hb=>hb.setLo i u
theorem TwIn.setLo {w : World} {lo : Nat} {g : FlTy.T} {vd vs vq vx : Value} {hs0 hs : List Value} {j : Nat} (h : TwIn w lo g vd vs vq vx hs0 hs j) (i : Nat) (u : Value) : TwIn (w.setCell ⟨lo,i,none⟩ u) lo g vd vs vq vx hs0 hs j where
 st:=h.st.setLo i u
 sq:=h.sq.setLo i u
 row:=h.row.setLo i u
 len:=h.len
 old:=h.old
 dat:=h.dat.setTW i u
 new:=fun k h1 h2 h3=>(h.new k h1 h2 h3).setTW i u
theorem TwIn.start {wA wB wC wD : World} {lo : Nat} {g : FlTy.T} {vd vs vq vx : Value} {hs0 : List Value} (hlo : lo < wA.heap.size) (bB : Below wA.heap.size wA wB) (bC : Below wB.heap.size wB wC) (bD : Below wC.heap.size wC wD)
 (hd : RdIn wA (fun b=>Iv (lo + 1) wA.heap.size b ∧ Live wA b) (.sl .byte) (fD g) [vd]) (hs : NumRow wB (Iv wA.heap.size wB.heap.size) 5 vs ((fS g).map byteV)) (hq : NumRow wC (Iv wB.heap.size wC.heap.size) 22 vq ((fQ g).map seqV)) (hx : NumRow wD (Iv wC.heap.size wD.heap.size) 26 vx hs0) (hl : hs0.length = (fB g).length) :
 TwIn wD lo g vd vs vq vx hs0 hs0 0 where
 st:=((hs.mono (F':=Iv (lo + 1) wB.heap.size) fun b hb=>⟨by have:=hb.1;omega,hb.2⟩).below bC).below bD
 sq:=(hq.mono (F':=Iv (lo + 1) wC.heap.size) fun b hb=>⟨by have:=hb.1;have:=bB.size;omega,hb.2⟩).below bD
 row:=hx.mono fun b hb=>⟨by have:=hb.1;have:=bB.size;have:=bC.size;omega,hb.2⟩
 len:=hl
 old:=fun _ _=>rfl
 dat:=(((hd.below bB).below bC).below bD).mono fun b hb=>by
  have h1:=hb.1.2
  have:=bB.size;have:=bC.size;have:=bD.size
  refine ⟨⟨⟨hb.1.1,by omega⟩,?_⟩,hs.own_gt h1,hq.own_gt (by omega),hx.own_gt (by omega)⟩
  exact ((hb.2.below bB).below bC).below bD
 new:=fun i _ _ h=>absurd h (Nat.not_lt_zero i)
def FlNew (lo : Nat) (fs : List FlTy.T) (v : Value) (w : World) : Prop:=OwnE flE w (Iv lo w.heap.size) lo 67 v fs
def AfterCl (wr : World) (lo : Nat) (g : FlTy.T) (Ad : Option Addr) (cd m : Nat) (hs0 : List Value) (wx : World) : Prop:=∃ (As' : Option Addr) (cs' : Nat) (Aq' : Option Addr) (cq' : Nat) (Ax' : Option Addr) (cx' : Nat),
 BoxOf wx lo #[.int .i64 (fN g),.int .u8 (kI g),.int .i64 (fA g),.int .i64 (fM g),.slice Ad (fD g).length cd,.slice As' (fS g).length cs',.slice Aq' (fQ g).length cq',.slice Ax' m cx'] 67 ∧ Below wr.heap.size wr wx ∧ TwIn wx lo g (.slice Ad (fD g).length cd) (.slice As' (fS g).length cs') (.slice Aq' (fQ g).length cq') (.slice Ax' m cx') hs0 hs0 0
set_option maxRecDepth 100000 in
set_option maxHeartbeats 8000000 in
theorem ftwin_any (S : Nat → Prop) (fs : List FlTy.T) (N d : Nat) (B : Option Addr) (hN : fs.length = N) (w : World) (hr : RdIn w S (.sl FlTy) fs [.slice B N d]) :
 Calls Try.prog 17 #[.slice B N d] w fun e w'=>(∃ v,e = .returned v ∧ FlNew w.heap.size fs v w') ∧ Below w.heap.size w w':=by
 obtain ⟨ig,hig,hg0,hg1,hg2⟩:=minfo_flight
 have HR:=Lib.hid hr
 have HNM : Hid (N ≤ maxLen):=by have:=fl_max hr;show N ≤ maxLen;omega
 have HNZ : Hid (N * 128 ≤ 140737488355328):=by
  obtain ⟨_,_,_,_,h1,_⟩:=viewF hr
  rw [hN] at h1
  exact h1
 have HNL:=Lib.hid hN
 clear hr hN
 go_enter Try.func17,Try.ntmps17
 go_upto_region 1 with fail
 obtain ⟨W,hW⟩ : ∃ z : World,z = w:=⟨_,rfl⟩
 have b0 : Below W.heap.size W w:=by rw [hW];exact Below.refl _ _
 have HWW:=Lib.hid hW
 rw [← hW] at HR
 clear hW
 go_wp2
 go_loopw [2,9] (fun v i wr=>∃ (k : Nat),k ≤ N ∧ i = .int .i64 (k : Int) ∧ Below W.heap.size W wr ∧ FlNew W.heap.size (fs.take k) v wr) (fun _ i _=>N - (intOf i).toNat)
 case atStart=>exact ⟨0,by omega,rfl,b0,OwnE.nil _ _ _ _ _⟩
 case round=>
  obtain ⟨k,hk,rfl,b1,O1⟩:=hrel
  clear b0
  have bw : Below w.heap.size w wr:=by have:=HWW.out;subst this;exact b1
  by_cases hlt : k < N
  · have hlf : k < fs.length:=by have:=HNL.out;omega
    obtain ⟨b,off,Ab,cb,As,cs,Aq,cq,Ax,cx,rfl,q0,q1,q2,q3,q4,q5,q6,q7,hi,r1,r2,r3,r4⟩:=fl_at (HR.out.below b1) hlf
    have HST:=Lib.hid (show fs.take (k + 1) = fs.take k ++ [fs[k]] from List.take_succ_eq_append_getElem hlf)
    generalize fs[k] = g at *
    have HWJ:=next_wrap HNM.out hlt
    have HLJ:=Lib.hid hlt
    have HI:=Lib.hid hi
    have HSM:=Lib.hid (sq_small r3)
    have HZ : Hid ((fS g).length ≤ 140737488355328 ∧ (fQ g).length * 4 ≤ 140737488355328 ∧ (fB g).length * 24 ≤ 140737488355328):=by
     obtain ⟨_,_,_,_,_,h1,_⟩:=rdin_sl.1 r2
     obtain ⟨_,_,_,_,_,h2,_⟩:=rdin_sl.1 r3
     obtain ⟨_,_,_,_,_,h3,_⟩:=rdin_sl.1 r4
     refine ⟨?_,h2,h3⟩
     have h4 : (fS g).length * 1 ≤ 140737488355328:=h1
     omega
    obtain ⟨hs0,hl0,_,hrd0,hpl0,hr0⟩:=heads_of r4
    obtain ⟨m,hm⟩ : ∃ m : Nat,m = (fB g).length:=⟨_,rfl⟩
    have HM:=Lib.hid hm
    rw [← hm] at q7
    have HC1 : Hid (∀ w',Below wr.heap.size wr w' → Calls Try.prog 43 #[.slice Ab (fD g).length cb] w' fun e w''=>(∃ v,e = .returned v ∧ RdIn w'' (NewB w'.heap.size w'') (.sl .byte) (fD g) [v]) ∧ Below w'.heap.size w' w''):=fun w' bb=>clone_any S (fD g) Ab cb w' (r1.below bb)
    have HC2 : Hid (∀ w',Below wr.heap.size wr w' → Calls Try.prog 46 #[.slice As (fS g).length cs] w' fun e w''=>(∃ v,e = .returned v ∧ NumRow w'' (Iv w'.heap.size w''.heap.size) 5 v ((fS g).map byteV)) ∧ Below w'.heap.size w' w''):=fun w' bb=>cln_u8 _ As _ cs (by simp) (byte_max r2) (by have:=HZ.out.1;omega) (by intro u hu;rw [List.mem_map] at hu;obtain ⟨y,_,rfl⟩:=hu;rfl) w' (RdIn.row (e:=.byte) rfl (r2.below bb)).2
    have HC3 : Hid (∀ w',Below wr.heap.size wr w' → Calls Try.prog 47 #[.slice Aq (fQ g).length cq] w' fun e w''=>(∃ v,e = .returned v ∧ NumRow w'' (Iv w'.heap.size w''.heap.size) 22 v ((fQ g).map seqV)) ∧ Below w'.heap.size w' w''):=fun w' bb=>cln_u32 _ Aq _ cq (by simp) (seq_max r3) HZ.out.2.1 (by intro u hu;rw [List.mem_map] at hu;obtain ⟨y,_,rfl⟩:=hu;rfl) w' (RdIn.row (e:=.u32) rfl (r3.below bb)).2
    have HC4 : Hid (∀ w',Below wr.heap.size wr w' → Calls Try.prog 48 #[.slice Ax m cx] w' fun e w''=>(∃ v,e = .returned v ∧ NumRow w'' (Iv w'.heap.size w''.heap.size) 26 v hs0) ∧ Below w'.heap.size w' w''):=fun w' bb=>cln_row hs0 Ax m cx (by omega) (by have:=val_max r4;omega) (by have:=HZ.out.2.2;omega) hpl0 w' (hrd0.below bb)
    have HC5 : Hid (∀ i (h : i < hs0.length) (h' : i < (fB g).length),RdIn wr S (.sl .byte) (fB g)[i] [hs0[i]]):=hr0
    have HML : Hid (hs0.length = m ∧ m ≤ maxLen):=⟨by omega,by have:=val_max r4;omega⟩
    have bA:=Ext.alloc (Below.refl wr.heap.size wr) (.cells #[.int .i64 (fN g),.int .u8 (kI g),.int .i64 (fA g),.int .i64 (fM g),.slice Ab (fD g).length cb,.slice As (fS g).length cs,.slice Aq (fQ g).length cq,.slice Ax m cx] 67)
    have G1:=BoxOf.new wr #[.int .i64 (fN g),.int .u8 (kI g),.int .i64 (fA g),.int .i64 (fM g),.slice Ab (fD g).length cb,.slice As (fS g).length cs,.slice Aq (fQ g).length cq,.slice Ax m cx] 67
    clear hi r1 r2 r3 r4 hr0 hpl0 hrd0 hl0 hm hlf
    go_upto_region 4 with fail
    clear q0 q1 q2 q3 q4 q5 q6 q7
    obtain ⟨lo,hlo⟩ : ∃ z : Nat,z = wr.heap.size:=⟨_,rfl⟩
    have HLO:=Lib.hid hlo
    rw [← hlo] at G1 ⊢
    clear hlo
    generalize wr.alloc (.cells #[.int .i64 (fN g),.int .u8 (kI g),.int .i64 (fA g),.int .i64 (fM g),.slice Ab (fD g).length cb,.slice As (fS g).length cs,.slice Aq (fQ g).length cq,.slice Ax m cx] 67) = W1 at *
    have x1:=G1.cell
    have hl1:=G1.lt
    go_wp2_with fail
    refine (HC1.out _ bA).mono ?_
    rintro e w2 ⟨⟨vd,rfl,rd⟩,b2⟩
    obtain ⟨Ad,cd,rfl⟩:=bytesV rd
    have G2:=G1.next b2
    have bA2:=Ext.trans bA b2
    have l2 : lo < w2.heap.size:=G2.lt
    have D2 : RdIn w2 (fun b=>Iv (lo + 1) w2.heap.size b ∧ Live w2 b) (.sl .byte) (fD g) [.slice Ad (fD g).length cd]:=rd.mono fun b hb=>⟨⟨by have:=hb.1;omega,hb.2.1⟩,hb.2.2⟩
    have G3 : BoxOf _ lo #[.int .i64 (fN g),.int .u8 (kI g),.int .i64 (fA g),.int .i64 (fM g),.slice Ad (fD g).length cd,.slice As (fS g).length cs,.slice Aq (fQ g).length cq,.slice Ax m cx] 67:=mbox_self G2 4 (.slice Ad (fD g).length cd)
    have D3 : RdIn (w2.setCell ⟨lo,4,none⟩ (.slice Ad (fD g).length cd)) (fun b=>Iv (lo + 1) (w2.setCell ⟨lo,4,none⟩ (.slice Ad (fD g).length cd)).heap.size b ∧ Live (w2.setCell ⟨lo,4,none⟩ (.slice Ad (fD g).length cd)) b) (.sl .byte) (fD g) [.slice Ad (fD g).length cd]:=(D2.frame fun b hb=>Below.heap_setCell _ _ _ _ (show b ≠ lo by have:=hb.1.1;omega)).mono fun b hb=>⟨by rw [msize];exact hb.1,live_set hb.2 _ _⟩
    have b3:=Below.setCell (p:=⟨lo,4,none⟩) bA2 (show wr.heap.size ≤ lo by rw [HLO.out];exact Nat.le_refl _) (.slice Ad (fD g).length cd)
    have x2:=G2.cell
    have f2:=G2.free
    have HD:=Lib.hid D3
    clear x1 hl1 rd D2 D3 bA bA2 b2 HC1 G1
    go_upto_region 5 with fail
    clear x2 f2 G2
    generalize w2.setCell ⟨lo,4,none⟩ (.slice Ad (fD g).length cd) = w3 at *
    have x3:=G3.cell
    have HLE : Hid (wr.heap.size ≤ lo):=by rw [HLO.out];exact Nat.le_refl _
    go_cut [] (fun wx=>AfterCl wr lo g Ad cd m hs0 wx)
    case first=>
     refine wp_region_held_drew (S:=fun w'=>Below wr.heap.size wr w') (by kernel_rfl) (Ext.drew b3) (fun hS=>?_)
     have bd:=Ext.drew (Below.refl w3.heap.size w3)
     have D5 : RdIn w3.drew (fun b=>Iv (lo + 1) w3.drew.heap.size b ∧ Live w3.drew b) (.sl .byte) (fD g) [.slice Ad (fD g).length cd]:=HD.out.below bd
     have G:=G3.next bd
     have bb:=Ext.trans b3 bd
     have hlA:=G.lt
     clear HD G3 b3 x3 bd
     generalize w3.drew = wA at *
     refine wpAnyH_take (i:=0) (v:=?_) rfl (by kernel_rfl) (by kernel_rfl) (by kernel_rfl) (fun _ _ _ h=>h) (Or.inl ⟨by rfl,?_⟩) hS ?_
     rotate_left
     · (intro w hSw;(try dsimp only at hSw);go_simp;(try with_reducible rfl))
     rotate_left
     simp only [Act.put,zq0,zq1,zq2,zq3,zq4,zq5]
     refine wpAnyH_take (i:=3) (v:=?_) rfl (by kernel_rfl) (by kernel_rfl) (by kernel_rfl) (fun _ _ _ h=>h) (Or.inl ⟨by rfl,?_⟩) hS ?_
     rotate_left
     · (intro w hSw;(try dsimp only at hSw);go_simp;(try with_reducible rfl))
     rotate_left
     simp only [Act.put,zq0,zq1,zq2,zq3,zq4,zq5]
     refine wpAnyH_take (i:=6) (v:=?_) rfl (by kernel_rfl) (by kernel_rfl) (by kernel_rfl) (fun _ _ _ h=>h) (Or.inl ⟨by rfl,?_⟩) hS ?_
     rotate_left
     · (intro w hSw;(try dsimp only at hSw);go_simp;(try with_reducible rfl))
     rotate_left
     simp only [Act.put,zq0,zq1,zq2,zq3,zq4,zq5]
     refine wpAnyH_ready (rs:=[1,4,7]) (by kernel_rfl) (by simp) ?_
     refine AllReadyH.cons rfl (fun K hK=>?_) (AllReadyH.cons rfl (fun K hK=>?_) (AllReadyH.cons rfl (fun K hK=>?_) AllReadyH.nil))
     · rw [if_pos (by rfl)]
       have yQ:=G.cell
       go_simp
       refine hK.out _ _ bb (fun hS'=>?_)
       clear yQ
       clear hK K hS
       have hS:=hS'
       clear hS'
       try simp only [Act.put,zq0,zq1,zq2,zq3,zq4,zq5]
       refine wpAnyH_ready (rs:=[2,4,7]) (by kernel_rfl) (by simp) ?_
       refine AllReadyH.cons rfl (fun K hK=>?_) (AllReadyH.cons rfl (fun K hK=>?_) (AllReadyH.cons rfl (fun K hK=>?_) AllReadyH.nil))
       · rw [if_pos (by rfl)]
         go_simp
         refine (HC2.out _ bb).mono ?_
         rintro e wB ⟨⟨vs,rfl,ns⟩,bB⟩
         have G9:=G.next bB
         have bb9:=Ext.trans bb bB
         clear G bb
         have G:=G9
         have bb:=bb9
         clear G9 bb9
         refine hK.out _ _ bb (fun hS'=>?_)
         clear hK K hS
         have hS:=hS'
         clear hS'
         try simp only [Act.put,zq0,zq1,zq2,zq3,zq4,zq5]
         refine wpAnyH_ready (rs:=[4,7]) (by kernel_rfl) (by simp) ?_
         refine AllReadyH.cons rfl (fun K hK=>?_) (AllReadyH.cons rfl (fun K hK=>?_) AllReadyH.nil)
         · rw [if_pos (by rfl)]
           have yQ:=G.cell
           go_simp
           refine hK.out _ _ bb (fun hS'=>?_)
           clear yQ
           clear hK K hS
           have hS:=hS'
           clear hS'
           try simp only [Act.put,zq0,zq1,zq2,zq3,zq4,zq5]
           refine wpAnyH_ready (rs:=[5,7]) (by kernel_rfl) (by simp) ?_
           refine AllReadyH.cons rfl (fun K hK=>?_) (AllReadyH.cons rfl (fun K hK=>?_) AllReadyH.nil)
           · rw [if_pos (by rfl)]
             go_simp
             refine (HC3.out _ bb).mono ?_
             rintro e wC ⟨⟨vq,rfl,nq'⟩,bC⟩
             have G9:=G.next bC
             have bb9:=Ext.trans bb bC
             clear G bb
             have G:=G9
             have bb:=bb9
             clear G9 bb9
             refine hK.out _ _ bb (fun hS'=>?_)
             clear hK K hS
             have hS:=hS'
             clear hS'
             try simp only [Act.put,zq0,zq1,zq2,zq3,zq4,zq5]
             refine wpAnyH_ready (rs:=[7]) (by kernel_rfl) (by simp) ?_
             refine AllReadyH.cons rfl (fun K hK=>?_) AllReadyH.nil
             rw [if_pos (by rfl)]
             have yQ:=G.cell
             go_simp
             refine hK.out _ _ bb (fun hS'=>?_)
             clear yQ
             clear hK K hS
             have hS:=hS'
             clear hS'
             try simp only [Act.put,zq0,zq1,zq2,zq3,zq4,zq5]
             refine wpAnyH_take (i:=9) (v:=?_) rfl (by kernel_rfl) (by kernel_rfl) (by kernel_rfl) (fun _ _ _ h=>h) (Or.inl ⟨by rfl,?_⟩) hS ?_
             rotate_left
             · (intro w hSw;(try dsimp only at hSw);go_simp;(try with_reducible rfl))
             rotate_left
             simp only [Act.put,zq0,zq1,zq2,zq3,zq4,zq5]
             refine wpAnyH_ready (rs:=[8]) (by kernel_rfl) (by simp) ?_
             refine AllReadyH.cons rfl (fun K hK=>?_) AllReadyH.nil
             rw [if_pos (by rfl)]
             go_simp
             refine (HC4.out _ bb).mono ?_
             rintro e wD ⟨⟨vx,rfl,nx⟩,bD⟩
             have G9:=G.next bD
             have bb9:=Ext.trans bb bD
             clear G bb
             have G:=G9
             have bb:=bb9
             clear G9 bb9
             have T7:=TwIn.start hlA bB bC bD D5 ns nq' nx (by have:=HML.out;have:=HM.out;omega)
             obtain ⟨As',cs',es⟩:=ns.slice
             obtain ⟨Aq',cq',eq'⟩:=nq'.slice
             obtain ⟨Ax',cx',ex⟩:=nx.slice
             rw [List.length_map] at es eq'
             rw [HML.out.1] at ex
             subst es eq' ex
             clear bB bC bD D5 ns nq' nx
             refine hK.out _ _ bb (fun hS'=>?_)
             clear hK K hS
             have hS:=hS'
             clear hS'
             try simp only [Act.put,zq0,zq1,zq2,zq3,zq4,zq5]
             refine wpAnyH_ready (rs:=[10]) (by kernel_rfl) (by simp) ?_
             refine AllReadyH.cons rfl (fun K hK=>?_) AllReadyH.nil
             rw [if_pos (by rfl)]
             have fQ:=G.free
             have yQ:=G.cell
             go_simp
             clear fQ yQ
             have G9 : BoxOf _ lo #[.int .i64 (fN g),.int .u8 (kI g),.int .i64 (fA g),.int .i64 (fM g),.slice Ad (fD g).length cd,.slice As' (fS g).length cs',.slice Aq (fQ g).length cq,.slice Ax m cx] 67:=mbox_self G 5 (.slice As' (fS g).length cs')
             have bb9:=Below.setCell (p:=⟨lo,5,none⟩) bb HLE.out (.slice As' (fS g).length cs')
             have T9:=T7.setLo 5 (.slice As' (fS g).length cs')
             clear G bb T7
             have G:=G9
             have bb:=bb9
             have T7:=T9
             clear G9 bb9 T9
             refine hK.out _ _ bb (fun hS'=>?_)
             clear hK K hS
             have hS:=hS'
             clear hS'
             try simp only [Act.put,zq0,zq1,zq2,zq3,zq4,zq5]
             refine wpAnyH_take (i:=11) (v:=?_) rfl (by kernel_rfl) (by kernel_rfl) (by kernel_rfl) (fun _ _ _ h=>h) (Or.inl ⟨by rfl,?_⟩) hS ?_
             rotate_left
             · (intro w hSw;(try dsimp only at hSw);go_simp;(try with_reducible rfl))
             rotate_left
             simp only [Act.put,zq0,zq1,zq2,zq3,zq4,zq5]
             refine wpAnyH_ready (rs:=[12]) (by kernel_rfl) (by simp) ?_
             refine AllReadyH.cons rfl (fun K hK=>?_) AllReadyH.nil
             rw [if_pos (by rfl)]
             have fQ:=G.free
             have yQ:=G.cell
             go_simp
             clear fQ yQ
             have G9 : BoxOf _ lo #[.int .i64 (fN g),.int .u8 (kI g),.int .i64 (fA g),.int .i64 (fM g),.slice Ad (fD g).length cd,.slice As' (fS g).length cs',.slice Aq' (fQ g).length cq',.slice Ax m cx] 67:=mbox_self G 6 (.slice Aq' (fQ g).length cq')
             have bb9:=Below.setCell (p:=⟨lo,6,none⟩) bb HLE.out (.slice Aq' (fQ g).length cq')
             have T9:=T7.setLo 6 (.slice Aq' (fQ g).length cq')
             clear G bb T7
             have G:=G9
             have bb:=bb9
             have T7:=T9
             clear G9 bb9 T9
             refine hK.out _ _ bb (fun hS'=>?_)
             clear hK K hS
             have hS:=hS'
             clear hS'
             try simp only [Act.put,zq0,zq1,zq2,zq3,zq4,zq5]
             refine wpAnyH_take (i:=13) (v:=?_) rfl (by kernel_rfl) (by kernel_rfl) (by kernel_rfl) (fun _ _ _ h=>h) (Or.inl ⟨by rfl,?_⟩) hS ?_
             rotate_left
             · (intro w hSw;(try dsimp only at hSw);go_simp;(try with_reducible rfl))
             rotate_left
             simp only [Act.put,zq0,zq1,zq2,zq3,zq4,zq5]
             refine wpAnyH_ready (rs:=[14]) (by kernel_rfl) (by simp) ?_
             refine AllReadyH.cons rfl (fun K hK=>?_) AllReadyH.nil
             rw [if_pos (by rfl)]
             have fQ:=G.free
             have yQ:=G.cell
             go_simp
             clear fQ yQ
             have G9 : BoxOf _ lo #[.int .i64 (fN g),.int .u8 (kI g),.int .i64 (fA g),.int .i64 (fM g),.slice Ad (fD g).length cd,.slice As' (fS g).length cs',.slice Aq' (fQ g).length cq',.slice Ax' m cx'] 67:=mbox_self G 7 (.slice Ax' m cx')
             have bb9:=Below.setCell (p:=⟨lo,7,none⟩) bb HLE.out (.slice Ax' m cx')
             have T9:=T7.setLo 7 (.slice Ax' m cx')
             clear G bb T7
             have G:=G9
             have bb:=bb9
             have T7:=T9
             clear G9 bb9 T9
             refine hK.out _ _ bb (fun hS'=>?_)
             clear hK K hS
             have hS:=hS'
             clear hS'
             try simp only [Act.put,zq0,zq1,zq2,zq3,zq4,zq5]
             refine wpAnyH_done (by kernel_rfl) ?_ _
             have HG:=Lib.hid (And.intro G (And.intro bb T7))
             clear hS G bb T7
             go_wp2_with fail
             go_meet
             exact ⟨_,_,_,_,_,_,HG.out⟩
           · rw [if_pos (by rfl)]
             have yQ:=G.cell
             go_simp
             refine hK.out _ _ bb (fun hS'=>?_)
             clear yQ
             clear hK K hS
             have hS:=hS'
             clear hS'
             try simp only [Act.put,zq0,zq1,zq2,zq3,zq4,zq5]
             refine wpAnyH_take (i:=9) (v:=?_) rfl (by kernel_rfl) (by kernel_rfl) (by kernel_rfl) (fun _ _ _ h=>h) (Or.inl ⟨by rfl,?_⟩) hS ?_
             rotate_left
             · (intro w hSw;(try dsimp only at hSw);go_simp;(try with_reducible rfl))
             rotate_left
             simp only [Act.put,zq0,zq1,zq2,zq3,zq4,zq5]
             refine wpAnyH_ready (rs:=[5]) (by kernel_rfl) (by simp) ?_
             refine AllReadyH.cons rfl (fun K hK=>?_) AllReadyH.nil
             rw [if_pos (by rfl)]
             go_simp
             refine (HC3.out _ bb).mono ?_
             rintro e wC ⟨⟨vq,rfl,nq'⟩,bC⟩
             have G9:=G.next bC
             have bb9:=Ext.trans bb bC
             clear G bb
             have G:=G9
             have bb:=bb9
             clear G9 bb9
             refine hK.out _ _ bb (fun hS'=>?_)
             clear hK K hS
             have hS:=hS'
             clear hS'
             try simp only [Act.put,zq0,zq1,zq2,zq3,zq4,zq5]
             refine wpAnyH_ready (rs:=[8]) (by kernel_rfl) (by simp) ?_
             refine AllReadyH.cons rfl (fun K hK=>?_) AllReadyH.nil
             rw [if_pos (by rfl)]
             go_simp
             refine (HC4.out _ bb).mono ?_
             rintro e wD ⟨⟨vx,rfl,nx⟩,bD⟩
             have G9:=G.next bD
             have bb9:=Ext.trans bb bD
             clear G bb
             have G:=G9
             have bb:=bb9
             clear G9 bb9
             have T7:=TwIn.start hlA bB bC bD D5 ns nq' nx (by have:=HML.out;have:=HM.out;omega)
             obtain ⟨As',cs',es⟩:=ns.slice
             obtain ⟨Aq',cq',eq'⟩:=nq'.slice
             obtain ⟨Ax',cx',ex⟩:=nx.slice
             rw [List.length_map] at es eq'
             rw [HML.out.1] at ex
             subst es eq' ex
             clear bB bC bD D5 ns nq' nx
             refine hK.out _ _ bb (fun hS'=>?_)
             clear hK K hS
             have hS:=hS'
             clear hS'
             try simp only [Act.put,zq0,zq1,zq2,zq3,zq4,zq5]
             refine wpAnyH_ready (rs:=[10]) (by kernel_rfl) (by simp) ?_
             refine AllReadyH.cons rfl (fun K hK=>?_) AllReadyH.nil
             rw [if_pos (by rfl)]
             have fQ:=G.free
             have yQ:=G.cell
             go_simp
             clear fQ yQ
             have G9 : BoxOf _ lo #[.int .i64 (fN g),.int .u8 (kI g),.int .i64 (fA g),.int .i64 (fM g),.slice Ad (fD g).length cd,.slice As' (fS g).length cs',.slice Aq (fQ g).length cq,.slice Ax m cx] 67:=mbox_self G 5 (.slice As' (fS g).length cs')
             have bb9:=Below.setCell (p:=⟨lo,5,none⟩) bb HLE.out (.slice As' (fS g).length cs')
             have T9:=T7.setLo 5 (.slice As' (fS g).length cs')
             clear G bb T7
             have G:=G9
             have bb:=bb9
             have T7:=T9
             clear G9 bb9 T9
             refine hK.out _ _ bb (fun hS'=>?_)
             clear hK K hS
             have hS:=hS'
             clear hS'
             try simp only [Act.put,zq0,zq1,zq2,zq3,zq4,zq5]
             refine wpAnyH_take (i:=11) (v:=?_) rfl (by kernel_rfl) (by kernel_rfl) (by kernel_rfl) (fun _ _ _ h=>h) (Or.inl ⟨by rfl,?_⟩) hS ?_
             rotate_left
             · (intro w hSw;(try dsimp only at hSw);go_simp;(try with_reducible rfl))
             rotate_left
             simp only [Act.put,zq0,zq1,zq2,zq3,zq4,zq5]
             refine wpAnyH_ready (rs:=[12]) (by kernel_rfl) (by simp) ?_
             refine AllReadyH.cons rfl (fun K hK=>?_) AllReadyH.nil
             rw [if_pos (by rfl)]
             have fQ:=G.free
             have yQ:=G.cell
             go_simp
             clear fQ yQ
             have G9 : BoxOf _ lo #[.int .i64 (fN g),.int .u8 (kI g),.int .i64 (fA g),.int .i64 (fM g),.slice Ad (fD g).length cd,.slice As' (fS g).length cs',.slice Aq' (fQ g).length cq',.slice Ax m cx] 67:=mbox_self G 6 (.slice Aq' (fQ g).length cq')
             have bb9:=Below.setCell (p:=⟨lo,6,none⟩) bb HLE.out (.slice Aq' (fQ g).length cq')
             have T9:=T7.setLo 6 (.slice Aq' (fQ g).length cq')
             clear G bb T7
             have G:=G9
             have bb:=bb9
             have T7:=T9
             clear G9 bb9 T9
             refine hK.out _ _ bb (fun hS'=>?_)
             clear hK K hS
             have hS:=hS'
             clear hS'
             try simp only [Act.put,zq0,zq1,zq2,zq3,zq4,zq5]
             refine wpAnyH_take (i:=13) (v:=?_) rfl (by kernel_rfl) (by kernel_rfl) (by kernel_rfl) (fun _ _ _ h=>h) (Or.inl ⟨by rfl,?_⟩) hS ?_
             rotate_left
             · (intro w hSw;(try dsimp only at hSw);go_simp;(try with_reducible rfl))
             rotate_left
             simp only [Act.put,zq0,zq1,zq2,zq3,zq4,zq5]
             refine wpAnyH_ready (rs:=[14]) (by kernel_rfl) (by simp) ?_
             refine AllReadyH.cons rfl (fun K hK=>?_) AllReadyH.nil
             rw [if_pos (by rfl)]
             have fQ:=G.free
             have yQ:=G.cell
             go_simp
             clear fQ yQ
             have G9 : BoxOf _ lo #[.int .i64 (fN g),.int .u8 (kI g),.int .i64 (fA g),.int .i64 (fM g),.slice Ad (fD g).length cd,.slice As' (fS g).length cs',.slice Aq' (fQ g).length cq',.slice Ax' m cx'] 67:=mbox_self G 7 (.slice Ax' m cx')
             have bb9:=Below.setCell (p:=⟨lo,7,none⟩) bb HLE.out (.slice Ax' m cx')
             have T9:=T7.setLo 7 (.slice Ax' m cx')
             clear G bb T7
             have G:=G9
             have bb:=bb9
             have T7:=T9
             clear G9 bb9 T9
             refine hK.out _ _ bb (fun hS'=>?_)
             clear hK K hS
             have hS:=hS'
             clear hS'
             try simp only [Act.put,zq0,zq1,zq2,zq3,zq4,zq5]
             refine wpAnyH_done (by kernel_rfl) ?_ _
             have HG:=Lib.hid (And.intro G (And.intro bb T7))
             clear hS G bb T7
             go_wp2_with fail
             go_meet
             exact ⟨_,_,_,_,_,_,HG.out⟩
         · rw [if_pos (by rfl)]
           have yQ:=G.cell
           go_simp
           refine hK.out _ _ bb (fun hS'=>?_)
           clear yQ
           clear hK K hS
           have hS:=hS'
           clear hS'
           try simp only [Act.put,zq0,zq1,zq2,zq3,zq4,zq5]
           refine wpAnyH_ready (rs:=[4]) (by kernel_rfl) (by simp) ?_
           refine AllReadyH.cons rfl (fun K hK=>?_) AllReadyH.nil
           rw [if_pos (by rfl)]
           have yQ:=G.cell
           go_simp
           refine hK.out _ _ bb (fun hS'=>?_)
           clear yQ
           clear hK K hS
           have hS:=hS'
           clear hS'
           try simp only [Act.put,zq0,zq1,zq2,zq3,zq4,zq5]
           refine wpAnyH_take (i:=9) (v:=?_) rfl (by kernel_rfl) (by kernel_rfl) (by kernel_rfl) (fun _ _ _ h=>h) (Or.inl ⟨by rfl,?_⟩) hS ?_
           rotate_left
           · (intro w hSw;(try dsimp only at hSw);go_simp;(try with_reducible rfl))
           rotate_left
           simp only [Act.put,zq0,zq1,zq2,zq3,zq4,zq5]
           refine wpAnyH_ready (rs:=[5]) (by kernel_rfl) (by simp) ?_
           refine AllReadyH.cons rfl (fun K hK=>?_) AllReadyH.nil
           rw [if_pos (by rfl)]
           go_simp
           refine (HC3.out _ bb).mono ?_
           rintro e wC ⟨⟨vq,rfl,nq'⟩,bC⟩
           have G9:=G.next bC
           have bb9:=Ext.trans bb bC
           clear G bb
           have G:=G9
           have bb:=bb9
           clear G9 bb9
           refine hK.out _ _ bb (fun hS'=>?_)
           clear hK K hS
           have hS:=hS'
           clear hS'
           try simp only [Act.put,zq0,zq1,zq2,zq3,zq4,zq5]
           refine wpAnyH_ready (rs:=[8]) (by kernel_rfl) (by simp) ?_
           refine AllReadyH.cons rfl (fun K hK=>?_) AllReadyH.nil
           rw [if_pos (by rfl)]
           go_simp
           refine (HC4.out _ bb).mono ?_
           rintro e wD ⟨⟨vx,rfl,nx⟩,bD⟩
           have G9:=G.next bD
           have bb9:=Ext.trans bb bD
           clear G bb
           have G:=G9
           have bb:=bb9
           clear G9 bb9
           have T7:=TwIn.start hlA bB bC bD D5 ns nq' nx (by have:=HML.out;have:=HM.out;omega)
           obtain ⟨As',cs',es⟩:=ns.slice
           obtain ⟨Aq',cq',eq'⟩:=nq'.slice
           obtain ⟨Ax',cx',ex⟩:=nx.slice
           rw [List.length_map] at es eq'
           rw [HML.out.1] at ex
           subst es eq' ex
           clear bB bC bD D5 ns nq' nx
           refine hK.out _ _ bb (fun hS'=>?_)
           clear hK K hS
           have hS:=hS'
           clear hS'
           try simp only [Act.put,zq0,zq1,zq2,zq3,zq4,zq5]
           refine wpAnyH_ready (rs:=[10]) (by kernel_rfl) (by simp) ?_
           refine AllReadyH.cons rfl (fun K hK=>?_) AllReadyH.nil
           rw [if_pos (by rfl)]
           have fQ:=G.free
           have yQ:=G.cell
           go_simp
           clear fQ yQ
           have G9 : BoxOf _ lo #[.int .i64 (fN g),.int .u8 (kI g),.int .i64 (fA g),.int .i64 (fM g),.slice Ad (fD g).length cd,.slice As' (fS g).length cs',.slice Aq (fQ g).length cq,.slice Ax m cx] 67:=mbox_self G 5 (.slice As' (fS g).length cs')
           have bb9:=Below.setCell (p:=⟨lo,5,none⟩) bb HLE.out (.slice As' (fS g).length cs')
           have T9:=T7.setLo 5 (.slice As' (fS g).length cs')
           clear G bb T7
           have G:=G9
           have bb:=bb9
           have T7:=T9
           clear G9 bb9 T9
           refine hK.out _ _ bb (fun hS'=>?_)
           clear hK K hS
           have hS:=hS'
           clear hS'
           try simp only [Act.put,zq0,zq1,zq2,zq3,zq4,zq5]
           refine wpAnyH_take (i:=11) (v:=?_) rfl (by kernel_rfl) (by kernel_rfl) (by kernel_rfl) (fun _ _ _ h=>h) (Or.inl ⟨by rfl,?_⟩) hS ?_
           rotate_left
           · (intro w hSw;(try dsimp only at hSw);go_simp;(try with_reducible rfl))
           rotate_left
           simp only [Act.put,zq0,zq1,zq2,zq3,zq4,zq5]
           refine wpAnyH_ready (rs:=[12]) (by kernel_rfl) (by simp) ?_
           refine AllReadyH.cons rfl (fun K hK=>?_) AllReadyH.nil
           rw [if_pos (by rfl)]
           have fQ:=G.free
           have yQ:=G.cell
           go_simp
           clear fQ yQ
           have G9 : BoxOf _ lo #[.int .i64 (fN g),.int .u8 (kI g),.int .i64 (fA g),.int .i64 (fM g),.slice Ad (fD g).length cd,.slice As' (fS g).length cs',.slice Aq' (fQ g).length cq',.slice Ax m cx] 67:=mbox_self G 6 (.slice Aq' (fQ g).length cq')
           have bb9:=Below.setCell (p:=⟨lo,6,none⟩) bb HLE.out (.slice Aq' (fQ g).length cq')
           have T9:=T7.setLo 6 (.slice Aq' (fQ g).length cq')
           clear G bb T7
           have G:=G9
           have bb:=bb9
           have T7:=T9
           clear G9 bb9 T9
           refine hK.out _ _ bb (fun hS'=>?_)
           clear hK K hS
           have hS:=hS'
           clear hS'
           try simp only [Act.put,zq0,zq1,zq2,zq3,zq4,zq5]
           refine wpAnyH_take (i:=13) (v:=?_) rfl (by kernel_rfl) (by kernel_rfl) (by kernel_rfl) (fun _ _ _ h=>h) (Or.inl ⟨by rfl,?_⟩) hS ?_
           rotate_left
           · (intro w hSw;(try dsimp only at hSw);go_simp;(try with_reducible rfl))
           rotate_left
           simp only [Act.put,zq0,zq1,zq2,zq3,zq4,zq5]
           refine wpAnyH_ready (rs:=[14]) (by kernel_rfl) (by simp) ?_
           refine AllReadyH.cons rfl (fun K hK=>?_) AllReadyH.nil
           rw [if_pos (by rfl)]
           have fQ:=G.free
           have yQ:=G.cell
           go_simp
           clear fQ yQ
           have G9 : BoxOf _ lo #[.int .i64 (fN g),.int .u8 (kI g),.int .i64 (fA g),.int .i64 (fM g),.slice Ad (fD g).length cd,.slice As' (fS g).length cs',.slice Aq' (fQ g).length cq',.slice Ax' m cx'] 67:=mbox_self G 7 (.slice Ax' m cx')
           have bb9:=Below.setCell (p:=⟨lo,7,none⟩) bb HLE.out (.slice Ax' m cx')
           have T9:=T7.setLo 7 (.slice Ax' m cx')
           clear G bb T7
           have G:=G9
           have bb:=bb9
           have T7:=T9
           clear G9 bb9 T9
           refine hK.out _ _ bb (fun hS'=>?_)
           clear hK K hS
           have hS:=hS'
           clear hS'
           try simp only [Act.put,zq0,zq1,zq2,zq3,zq4,zq5]
           refine wpAnyH_done (by kernel_rfl) ?_ _
           have HG:=Lib.hid (And.intro G (And.intro bb T7))
           clear hS G bb T7
           go_wp2_with fail
           go_meet
           exact ⟨_,_,_,_,_,_,HG.out⟩
       · rw [if_pos (by rfl)]
         have yQ:=G.cell
         go_simp
         refine hK.out _ _ bb (fun hS'=>?_)
         clear yQ
         clear hK K hS
         have hS:=hS'
         clear hS'
         try simp only [Act.put,zq0,zq1,zq2,zq3,zq4,zq5]
         refine wpAnyH_ready (rs:=[2,7]) (by kernel_rfl) (by simp) ?_
         refine AllReadyH.cons rfl (fun K hK=>?_) (AllReadyH.cons rfl (fun K hK=>?_) AllReadyH.nil)
         · rw [if_pos (by rfl)]
           go_simp
           refine (HC2.out _ bb).mono ?_
           rintro e wB ⟨⟨vs,rfl,ns⟩,bB⟩
           have G9:=G.next bB
           have bb9:=Ext.trans bb bB
           clear G bb
           have G:=G9
           have bb:=bb9
           clear G9 bb9
           refine hK.out _ _ bb (fun hS'=>?_)
           clear hK K hS
           have hS:=hS'
           clear hS'
           try simp only [Act.put,zq0,zq1,zq2,zq3,zq4,zq5]
           refine wpAnyH_ready (rs:=[5,7]) (by kernel_rfl) (by simp) ?_
           refine AllReadyH.cons rfl (fun K hK=>?_) (AllReadyH.cons rfl (fun K hK=>?_) AllReadyH.nil)
           · rw [if_pos (by rfl)]
             go_simp
             refine (HC3.out _ bb).mono ?_
             rintro e wC ⟨⟨vq,rfl,nq'⟩,bC⟩
             have G9:=G.next bC
             have bb9:=Ext.trans bb bC
             clear G bb
             have G:=G9
             have bb:=bb9
             clear G9 bb9
             refine hK.out _ _ bb (fun hS'=>?_)
             clear hK K hS
             have hS:=hS'
             clear hS'
             try simp only [Act.put,zq0,zq1,zq2,zq3,zq4,zq5]
             refine wpAnyH_ready (rs:=[7]) (by kernel_rfl) (by simp) ?_
             refine AllReadyH.cons rfl (fun K hK=>?_) AllReadyH.nil
             rw [if_pos (by rfl)]
             have yQ:=G.cell
             go_simp
             refine hK.out _ _ bb (fun hS'=>?_)
             clear yQ
             clear hK K hS
             have hS:=hS'
             clear hS'
             try simp only [Act.put,zq0,zq1,zq2,zq3,zq4,zq5]
             refine wpAnyH_take (i:=9) (v:=?_) rfl (by kernel_rfl) (by kernel_rfl) (by kernel_rfl) (fun _ _ _ h=>h) (Or.inl ⟨by rfl,?_⟩) hS ?_
             rotate_left
             · (intro w hSw;(try dsimp only at hSw);go_simp;(try with_reducible rfl))
             rotate_left
             simp only [Act.put,zq0,zq1,zq2,zq3,zq4,zq5]
             refine wpAnyH_ready (rs:=[8]) (by kernel_rfl) (by simp) ?_
             refine AllReadyH.cons rfl (fun K hK=>?_) AllReadyH.nil
             rw [if_pos (by rfl)]
             go_simp
             refine (HC4.out _ bb).mono ?_
             rintro e wD ⟨⟨vx,rfl,nx⟩,bD⟩
             have G9:=G.next bD
             have bb9:=Ext.trans bb bD
             clear G bb
             have G:=G9
             have bb:=bb9
             clear G9 bb9
             have T7:=TwIn.start hlA bB bC bD D5 ns nq' nx (by have:=HML.out;have:=HM.out;omega)
             obtain ⟨As',cs',es⟩:=ns.slice
             obtain ⟨Aq',cq',eq'⟩:=nq'.slice
             obtain ⟨Ax',cx',ex⟩:=nx.slice
             rw [List.length_map] at es eq'
             rw [HML.out.1] at ex
             subst es eq' ex
             clear bB bC bD D5 ns nq' nx
             refine hK.out _ _ bb (fun hS'=>?_)
             clear hK K hS
             have hS:=hS'
             clear hS'
             try simp only [Act.put,zq0,zq1,zq2,zq3,zq4,zq5]
             refine wpAnyH_ready (rs:=[10]) (by kernel_rfl) (by simp) ?_
             refine AllReadyH.cons rfl (fun K hK=>?_) AllReadyH.nil
             rw [if_pos (by rfl)]
             have fQ:=G.free
             have yQ:=G.cell
             go_simp
             clear fQ yQ
             have G9 : BoxOf _ lo #[.int .i64 (fN g),.int .u8 (kI g),.int .i64 (fA g),.int .i64 (fM g),.slice Ad (fD g).length cd,.slice As' (fS g).length cs',.slice Aq (fQ g).length cq,.slice Ax m cx] 67:=mbox_self G 5 (.slice As' (fS g).length cs')
             have bb9:=Below.setCell (p:=⟨lo,5,none⟩) bb HLE.out (.slice As' (fS g).length cs')
             have T9:=T7.setLo 5 (.slice As' (fS g).length cs')
             clear G bb T7
             have G:=G9
             have bb:=bb9
             have T7:=T9
             clear G9 bb9 T9
             refine hK.out _ _ bb (fun hS'=>?_)
             clear hK K hS
             have hS:=hS'
             clear hS'
             try simp only [Act.put,zq0,zq1,zq2,zq3,zq4,zq5]
             refine wpAnyH_take (i:=11) (v:=?_) rfl (by kernel_rfl) (by kernel_rfl) (by kernel_rfl) (fun _ _ _ h=>h) (Or.inl ⟨by rfl,?_⟩) hS ?_
             rotate_left
             · (intro w hSw;(try dsimp only at hSw);go_simp;(try with_reducible rfl))
             rotate_left
             simp only [Act.put,zq0,zq1,zq2,zq3,zq4,zq5]
             refine wpAnyH_ready (rs:=[12]) (by kernel_rfl) (by simp) ?_
             refine AllReadyH.cons rfl (fun K hK=>?_) AllReadyH.nil
             rw [if_pos (by rfl)]
             have fQ:=G.free
             have yQ:=G.cell
             go_simp
             clear fQ yQ
             have G9 : BoxOf _ lo #[.int .i64 (fN g),.int .u8 (kI g),.int .i64 (fA g),.int .i64 (fM g),.slice Ad (fD g).length cd,.slice As' (fS g).length cs',.slice Aq' (fQ g).length cq',.slice Ax m cx] 67:=mbox_self G 6 (.slice Aq' (fQ g).length cq')
             have bb9:=Below.setCell (p:=⟨lo,6,none⟩) bb HLE.out (.slice Aq' (fQ g).length cq')
             have T9:=T7.setLo 6 (.slice Aq' (fQ g).length cq')
             clear G bb T7
             have G:=G9
             have bb:=bb9
             have T7:=T9
             clear G9 bb9 T9
             refine hK.out _ _ bb (fun hS'=>?_)
             clear hK K hS
             have hS:=hS'
             clear hS'
             try simp only [Act.put,zq0,zq1,zq2,zq3,zq4,zq5]
             refine wpAnyH_take (i:=13) (v:=?_) rfl (by kernel_rfl) (by kernel_rfl) (by kernel_rfl) (fun _ _ _ h=>h) (Or.inl ⟨by rfl,?_⟩) hS ?_
             rotate_left
             · (intro w hSw;(try dsimp only at hSw);go_simp;(try with_reducible rfl))
             rotate_left
             simp only [Act.put,zq0,zq1,zq2,zq3,zq4,zq5]
             refine wpAnyH_ready (rs:=[14]) (by kernel_rfl) (by simp) ?_
             refine AllReadyH.cons rfl (fun K hK=>?_) AllReadyH.nil
             rw [if_pos (by rfl)]
             have fQ:=G.free
             have yQ:=G.cell
             go_simp
             clear fQ yQ
             have G9 : BoxOf _ lo #[.int .i64 (fN g),.int .u8 (kI g),.int .i64 (fA g),.int .i64 (fM g),.slice Ad (fD g).length cd,.slice As' (fS g).length cs',.slice Aq' (fQ g).length cq',.slice Ax' m cx'] 67:=mbox_self G 7 (.slice Ax' m cx')
             have bb9:=Below.setCell (p:=⟨lo,7,none⟩) bb HLE.out (.slice Ax' m cx')
             have T9:=T7.setLo 7 (.slice Ax' m cx')
             clear G bb T7
             have G:=G9
             have bb:=bb9
             have T7:=T9
             clear G9 bb9 T9
             refine hK.out _ _ bb (fun hS'=>?_)
             clear hK K hS
             have hS:=hS'
             clear hS'
             try simp only [Act.put,zq0,zq1,zq2,zq3,zq4,zq5]
             refine wpAnyH_done (by kernel_rfl) ?_ _
             have HG:=Lib.hid (And.intro G (And.intro bb T7))
             clear hS G bb T7
             go_wp2_with fail
             go_meet
             exact ⟨_,_,_,_,_,_,HG.out⟩
           · rw [if_pos (by rfl)]
             have yQ:=G.cell
             go_simp
             refine hK.out _ _ bb (fun hS'=>?_)
             clear yQ
             clear hK K hS
             have hS:=hS'
             clear hS'
             try simp only [Act.put,zq0,zq1,zq2,zq3,zq4,zq5]
             refine wpAnyH_take (i:=9) (v:=?_) rfl (by kernel_rfl) (by kernel_rfl) (by kernel_rfl) (fun _ _ _ h=>h) (Or.inl ⟨by rfl,?_⟩) hS ?_
             rotate_left
             · (intro w hSw;(try dsimp only at hSw);go_simp;(try with_reducible rfl))
             rotate_left
             simp only [Act.put,zq0,zq1,zq2,zq3,zq4,zq5]
             refine wpAnyH_ready (rs:=[5]) (by kernel_rfl) (by simp) ?_
             refine AllReadyH.cons rfl (fun K hK=>?_) AllReadyH.nil
             rw [if_pos (by rfl)]
             go_simp
             refine (HC3.out _ bb).mono ?_
             rintro e wC ⟨⟨vq,rfl,nq'⟩,bC⟩
             have G9:=G.next bC
             have bb9:=Ext.trans bb bC
             clear G bb
             have G:=G9
             have bb:=bb9
             clear G9 bb9
             refine hK.out _ _ bb (fun hS'=>?_)
             clear hK K hS
             have hS:=hS'
             clear hS'
             try simp only [Act.put,zq0,zq1,zq2,zq3,zq4,zq5]
             refine wpAnyH_ready (rs:=[8]) (by kernel_rfl) (by simp) ?_
             refine AllReadyH.cons rfl (fun K hK=>?_) AllReadyH.nil
             rw [if_pos (by rfl)]
             go_simp
             refine (HC4.out _ bb).mono ?_
             rintro e wD ⟨⟨vx,rfl,nx⟩,bD⟩
             have G9:=G.next bD
             have bb9:=Ext.trans bb bD
             clear G bb
             have G:=G9
             have bb:=bb9
             clear G9 bb9
             have T7:=TwIn.start hlA bB bC bD D5 ns nq' nx (by have:=HML.out;have:=HM.out;omega)
             obtain ⟨As',cs',es⟩:=ns.slice
             obtain ⟨Aq',cq',eq'⟩:=nq'.slice
             obtain ⟨Ax',cx',ex⟩:=nx.slice
             rw [List.length_map] at es eq'
             rw [HML.out.1] at ex
             subst es eq' ex
             clear bB bC bD D5 ns nq' nx
             refine hK.out _ _ bb (fun hS'=>?_)
             clear hK K hS
             have hS:=hS'
             clear hS'
             try simp only [Act.put,zq0,zq1,zq2,zq3,zq4,zq5]
             refine wpAnyH_ready (rs:=[10]) (by kernel_rfl) (by simp) ?_
             refine AllReadyH.cons rfl (fun K hK=>?_) AllReadyH.nil
             rw [if_pos (by rfl)]
             have fQ:=G.free
             have yQ:=G.cell
             go_simp
             clear fQ yQ
             have G9 : BoxOf _ lo #[.int .i64 (fN g),.int .u8 (kI g),.int .i64 (fA g),.int .i64 (fM g),.slice Ad (fD g).length cd,.slice As' (fS g).length cs',.slice Aq (fQ g).length cq,.slice Ax m cx] 67:=mbox_self G 5 (.slice As' (fS g).length cs')
             have bb9:=Below.setCell (p:=⟨lo,5,none⟩) bb HLE.out (.slice As' (fS g).length cs')
             have T9:=T7.setLo 5 (.slice As' (fS g).length cs')
             clear G bb T7
             have G:=G9
             have bb:=bb9
             have T7:=T9
             clear G9 bb9 T9
             refine hK.out _ _ bb (fun hS'=>?_)
             clear hK K hS
             have hS:=hS'
             clear hS'
             try simp only [Act.put,zq0,zq1,zq2,zq3,zq4,zq5]
             refine wpAnyH_take (i:=11) (v:=?_) rfl (by kernel_rfl) (by kernel_rfl) (by kernel_rfl) (fun _ _ _ h=>h) (Or.inl ⟨by rfl,?_⟩) hS ?_
             rotate_left
             · (intro w hSw;(try dsimp only at hSw);go_simp;(try with_reducible rfl))
             rotate_left
             simp only [Act.put,zq0,zq1,zq2,zq3,zq4,zq5]
             refine wpAnyH_ready (rs:=[12]) (by kernel_rfl) (by simp) ?_
             refine AllReadyH.cons rfl (fun K hK=>?_) AllReadyH.nil
             rw [if_pos (by rfl)]
             have fQ:=G.free
             have yQ:=G.cell
             go_simp
             clear fQ yQ
             have G9 : BoxOf _ lo #[.int .i64 (fN g),.int .u8 (kI g),.int .i64 (fA g),.int .i64 (fM g),.slice Ad (fD g).length cd,.slice As' (fS g).length cs',.slice Aq' (fQ g).length cq',.slice Ax m cx] 67:=mbox_self G 6 (.slice Aq' (fQ g).length cq')
             have bb9:=Below.setCell (p:=⟨lo,6,none⟩) bb HLE.out (.slice Aq' (fQ g).length cq')
             have T9:=T7.setLo 6 (.slice Aq' (fQ g).length cq')
             clear G bb T7
             have G:=G9
             have bb:=bb9
             have T7:=T9
             clear G9 bb9 T9
             refine hK.out _ _ bb (fun hS'=>?_)
             clear hK K hS
             have hS:=hS'
             clear hS'
             try simp only [Act.put,zq0,zq1,zq2,zq3,zq4,zq5]
             refine wpAnyH_take (i:=13) (v:=?_) rfl (by kernel_rfl) (by kernel_rfl) (by kernel_rfl) (fun _ _ _ h=>h) (Or.inl ⟨by rfl,?_⟩) hS ?_
             rotate_left
             · (intro w hSw;(try dsimp only at hSw);go_simp;(try with_reducible rfl))
             rotate_left
             simp only [Act.put,zq0,zq1,zq2,zq3,zq4,zq5]
             refine wpAnyH_ready (rs:=[14]) (by kernel_rfl) (by simp) ?_
             refine AllReadyH.cons rfl (fun K hK=>?_) AllReadyH.nil
             rw [if_pos (by rfl)]
             have fQ:=G.free
             have yQ:=G.cell
             go_simp
             clear fQ yQ
             have G9 : BoxOf _ lo #[.int .i64 (fN g),.int .u8 (kI g),.int .i64 (fA g),.int .i64 (fM g),.slice Ad (fD g).length cd,.slice As' (fS g).length cs',.slice Aq' (fQ g).length cq',.slice Ax' m cx'] 67:=mbox_self G 7 (.slice Ax' m cx')
             have bb9:=Below.setCell (p:=⟨lo,7,none⟩) bb HLE.out (.slice Ax' m cx')
             have T9:=T7.setLo 7 (.slice Ax' m cx')
             clear G bb T7
             have G:=G9
             have bb:=bb9
             have T7:=T9
             clear G9 bb9 T9
             refine hK.out _ _ bb (fun hS'=>?_)
             clear hK K hS
             have hS:=hS'
             clear hS'
             try simp only [Act.put,zq0,zq1,zq2,zq3,zq4,zq5]
             refine wpAnyH_done (by kernel_rfl) ?_ _
             have HG:=Lib.hid (And.intro G (And.intro bb T7))
             clear hS G bb T7
             go_wp2_with fail
             go_meet
             exact ⟨_,_,_,_,_,_,HG.out⟩
         · rw [if_pos (by rfl)]
           have yQ:=G.cell
           go_simp
           refine hK.out _ _ bb (fun hS'=>?_)
           clear yQ
           clear hK K hS
           have hS:=hS'
           clear hS'
           try simp only [Act.put,zq0,zq1,zq2,zq3,zq4,zq5]
           refine wpAnyH_ready (rs:=[2]) (by kernel_rfl) (by simp) ?_
           refine AllReadyH.cons rfl (fun K hK=>?_) AllReadyH.nil
           rw [if_pos (by rfl)]
           go_simp
           refine (HC2.out _ bb).mono ?_
           rintro e wB ⟨⟨vs,rfl,ns⟩,bB⟩
           have G9:=G.next bB
           have bb9:=Ext.trans bb bB
           clear G bb
           have G:=G9
           have bb:=bb9
           clear G9 bb9
           refine hK.out _ _ bb (fun hS'=>?_)
           clear hK K hS
           have hS:=hS'
           clear hS'
           try simp only [Act.put,zq0,zq1,zq2,zq3,zq4,zq5]
           refine wpAnyH_take (i:=9) (v:=?_) rfl (by kernel_rfl) (by kernel_rfl) (by kernel_rfl) (fun _ _ _ h=>h) (Or.inl ⟨by rfl,?_⟩) hS ?_
           rotate_left
           · (intro w hSw;(try dsimp only at hSw);go_simp;(try with_reducible rfl))
           rotate_left
           simp only [Act.put,zq0,zq1,zq2,zq3,zq4,zq5]
           refine wpAnyH_ready (rs:=[5]) (by kernel_rfl) (by simp) ?_
           refine AllReadyH.cons rfl (fun K hK=>?_) AllReadyH.nil
           rw [if_pos (by rfl)]
           go_simp
           refine (HC3.out _ bb).mono ?_
           rintro e wC ⟨⟨vq,rfl,nq'⟩,bC⟩
           have G9:=G.next bC
           have bb9:=Ext.trans bb bC
           clear G bb
           have G:=G9
           have bb:=bb9
           clear G9 bb9
           refine hK.out _ _ bb (fun hS'=>?_)
           clear hK K hS
           have hS:=hS'
           clear hS'
           try simp only [Act.put,zq0,zq1,zq2,zq3,zq4,zq5]
           refine wpAnyH_ready (rs:=[8]) (by kernel_rfl) (by simp) ?_
           refine AllReadyH.cons rfl (fun K hK=>?_) AllReadyH.nil
           rw [if_pos (by rfl)]
           go_simp
           refine (HC4.out _ bb).mono ?_
           rintro e wD ⟨⟨vx,rfl,nx⟩,bD⟩
           have G9:=G.next bD
           have bb9:=Ext.trans bb bD
           clear G bb
           have G:=G9
           have bb:=bb9
           clear G9 bb9
           have T7:=TwIn.start hlA bB bC bD D5 ns nq' nx (by have:=HML.out;have:=HM.out;omega)
           obtain ⟨As',cs',es⟩:=ns.slice
           obtain ⟨Aq',cq',eq'⟩:=nq'.slice
           obtain ⟨Ax',cx',ex⟩:=nx.slice
           rw [List.length_map] at es eq'
           rw [HML.out.1] at ex
           subst es eq' ex
           clear bB bC bD D5 ns nq' nx
           refine hK.out _ _ bb (fun hS'=>?_)
           clear hK K hS
           have hS:=hS'
           clear hS'
           try simp only [Act.put,zq0,zq1,zq2,zq3,zq4,zq5]
           refine wpAnyH_ready (rs:=[10]) (by kernel_rfl) (by simp) ?_
           refine AllReadyH.cons rfl (fun K hK=>?_) AllReadyH.nil
           rw [if_pos (by rfl)]
           have fQ:=G.free
           have yQ:=G.cell
           go_simp
           clear fQ yQ
           have G9 : BoxOf _ lo #[.int .i64 (fN g),.int .u8 (kI g),.int .i64 (fA g),.int .i64 (fM g),.slice Ad (fD g).length cd,.slice As' (fS g).length cs',.slice Aq (fQ g).length cq,.slice Ax m cx] 67:=mbox_self G 5 (.slice As' (fS g).length cs')
           have bb9:=Below.setCell (p:=⟨lo,5,none⟩) bb HLE.out (.slice As' (fS g).length cs')
           have T9:=T7.setLo 5 (.slice As' (fS g).length cs')
           clear G bb T7
           have G:=G9
           have bb:=bb9
           have T7:=T9
           clear G9 bb9 T9
           refine hK.out _ _ bb (fun hS'=>?_)
           clear hK K hS
           have hS:=hS'
           clear hS'
           try simp only [Act.put,zq0,zq1,zq2,zq3,zq4,zq5]
           refine wpAnyH_take (i:=11) (v:=?_) rfl (by kernel_rfl) (by kernel_rfl) (by kernel_rfl) (fun _ _ _ h=>h) (Or.inl ⟨by rfl,?_⟩) hS ?_
           rotate_left
           · (intro w hSw;(try dsimp only at hSw);go_simp;(try with_reducible rfl))
           rotate_left
           simp only [Act.put,zq0,zq1,zq2,zq3,zq4,zq5]
           refine wpAnyH_ready (rs:=[12]) (by kernel_rfl) (by simp) ?_
           refine AllReadyH.cons rfl (fun K hK=>?_) AllReadyH.nil
           rw [if_pos (by rfl)]
           have fQ:=G.free
           have yQ:=G.cell
           go_simp
           clear fQ yQ
           have G9 : BoxOf _ lo #[.int .i64 (fN g),.int .u8 (kI g),.int .i64 (fA g),.int .i64 (fM g),.slice Ad (fD g).length cd,.slice As' (fS g).length cs',.slice Aq' (fQ g).length cq',.slice Ax m cx] 67:=mbox_self G 6 (.slice Aq' (fQ g).length cq')
           have bb9:=Below.setCell (p:=⟨lo,6,none⟩) bb HLE.out (.slice Aq' (fQ g).length cq')
           have T9:=T7.setLo 6 (.slice Aq' (fQ g).length cq')
           clear G bb T7
           have G:=G9
           have bb:=bb9
           have T7:=T9
           clear G9 bb9 T9
           refine hK.out _ _ bb (fun hS'=>?_)
           clear hK K hS
           have hS:=hS'
           clear hS'
           try simp only [Act.put,zq0,zq1,zq2,zq3,zq4,zq5]
           refine wpAnyH_take (i:=13) (v:=?_) rfl (by kernel_rfl) (by kernel_rfl) (by kernel_rfl) (fun _ _ _ h=>h) (Or.inl ⟨by rfl,?_⟩) hS ?_
           rotate_left
           · (intro w hSw;(try dsimp only at hSw);go_simp;(try with_reducible rfl))
           rotate_left
           simp only [Act.put,zq0,zq1,zq2,zq3,zq4,zq5]
           refine wpAnyH_ready (rs:=[14]) (by kernel_rfl) (by simp) ?_
           refine AllReadyH.cons rfl (fun K hK=>?_) AllReadyH.nil
           rw [if_pos (by rfl)]
           have fQ:=G.free
           have yQ:=G.cell
           go_simp
           clear fQ yQ
           have G9 : BoxOf _ lo #[.int .i64 (fN g),.int .u8 (kI g),.int .i64 (fA g),.int .i64 (fM g),.slice Ad (fD g).length cd,.slice As' (fS g).length cs',.slice Aq' (fQ g).length cq',.slice Ax' m cx'] 67:=mbox_self G 7 (.slice Ax' m cx')
           have bb9:=Below.setCell (p:=⟨lo,7,none⟩) bb HLE.out (.slice Ax' m cx')
           have T9:=T7.setLo 7 (.slice Ax' m cx')
           clear G bb T7
           have G:=G9
           have bb:=bb9
           have T7:=T9
           clear G9 bb9 T9
           refine hK.out _ _ bb (fun hS'=>?_)
           clear hK K hS
           have hS:=hS'
           clear hS'
           try simp only [Act.put,zq0,zq1,zq2,zq3,zq4,zq5]
           refine wpAnyH_done (by kernel_rfl) ?_ _
           have HG:=Lib.hid (And.intro G (And.intro bb T7))
           clear hS G bb T7
           go_wp2_with fail
           go_meet
           exact ⟨_,_,_,_,_,_,HG.out⟩
       · rw [if_pos (by rfl)]
         have yQ:=G.cell
         go_simp
         refine hK.out _ _ bb (fun hS'=>?_)
         clear yQ
         clear hK K hS
         have hS:=hS'
         clear hS'
         try simp only [Act.put,zq0,zq1,zq2,zq3,zq4,zq5]
         refine wpAnyH_ready (rs:=[2,4]) (by kernel_rfl) (by simp) ?_
         refine AllReadyH.cons rfl (fun K hK=>?_) (AllReadyH.cons rfl (fun K hK=>?_) AllReadyH.nil)
         · rw [if_pos (by rfl)]
           go_simp
           refine (HC2.out _ bb).mono ?_
           rintro e wB ⟨⟨vs,rfl,ns⟩,bB⟩
           have G9:=G.next bB
           have bb9:=Ext.trans bb bB
           clear G bb
           have G:=G9
           have bb:=bb9
           clear G9 bb9
           refine hK.out _ _ bb (fun hS'=>?_)
           clear hK K hS
           have hS:=hS'
           clear hS'
           try simp only [Act.put,zq0,zq1,zq2,zq3,zq4,zq5]
           refine wpAnyH_ready (rs:=[4]) (by kernel_rfl) (by simp) ?_
           refine AllReadyH.cons rfl (fun K hK=>?_) AllReadyH.nil
           rw [if_pos (by rfl)]
           have yQ:=G.cell
           go_simp
           refine hK.out _ _ bb (fun hS'=>?_)
           clear yQ
           clear hK K hS
           have hS:=hS'
           clear hS'
           try simp only [Act.put,zq0,zq1,zq2,zq3,zq4,zq5]
           refine wpAnyH_take (i:=9) (v:=?_) rfl (by kernel_rfl) (by kernel_rfl) (by kernel_rfl) (fun _ _ _ h=>h) (Or.inl ⟨by rfl,?_⟩) hS ?_
           rotate_left
           · (intro w hSw;(try dsimp only at hSw);go_simp;(try with_reducible rfl))
           rotate_left
           simp only [Act.put,zq0,zq1,zq2,zq3,zq4,zq5]
           refine wpAnyH_ready (rs:=[5]) (by kernel_rfl) (by simp) ?_
           refine AllReadyH.cons rfl (fun K hK=>?_) AllReadyH.nil
           rw [if_pos (by rfl)]
           go_simp
           refine (HC3.out _ bb).mono ?_
           rintro e wC ⟨⟨vq,rfl,nq'⟩,bC⟩
           have G9:=G.next bC
           have bb9:=Ext.trans bb bC
           clear G bb
           have G:=G9
           have bb:=bb9
           clear G9 bb9
           refine hK.out _ _ bb (fun hS'=>?_)
           clear hK K hS
           have hS:=hS'
           clear hS'
           try simp only [Act.put,zq0,zq1,zq2,zq3,zq4,zq5]
           refine wpAnyH_ready (rs:=[8]) (by kernel_rfl) (by simp) ?_
           refine AllReadyH.cons rfl (fun K hK=>?_) AllReadyH.nil
           rw [if_pos (by rfl)]
           go_simp
           refine (HC4.out _ bb).mono ?_
           rintro e wD ⟨⟨vx,rfl,nx⟩,bD⟩
           have G9:=G.next bD
           have bb9:=Ext.trans bb bD
           clear G bb
           have G:=G9
           have bb:=bb9
           clear G9 bb9
           have T7:=TwIn.start hlA bB bC bD D5 ns nq' nx (by have:=HML.out;have:=HM.out;omega)
           obtain ⟨As',cs',es⟩:=ns.slice
           obtain ⟨Aq',cq',eq'⟩:=nq'.slice
           obtain ⟨Ax',cx',ex⟩:=nx.slice
           rw [List.length_map] at es eq'
           rw [HML.out.1] at ex
           subst es eq' ex
           clear bB bC bD D5 ns nq' nx
           refine hK.out _ _ bb (fun hS'=>?_)
           clear hK K hS
           have hS:=hS'
           clear hS'
           try simp only [Act.put,zq0,zq1,zq2,zq3,zq4,zq5]
           refine wpAnyH_ready (rs:=[10]) (by kernel_rfl) (by simp) ?_
           refine AllReadyH.cons rfl (fun K hK=>?_) AllReadyH.nil
           rw [if_pos (by rfl)]
           have fQ:=G.free
           have yQ:=G.cell
           go_simp
           clear fQ yQ
           have G9 : BoxOf _ lo #[.int .i64 (fN g),.int .u8 (kI g),.int .i64 (fA g),.int .i64 (fM g),.slice Ad (fD g).length cd,.slice As' (fS g).length cs',.slice Aq (fQ g).length cq,.slice Ax m cx] 67:=mbox_self G 5 (.slice As' (fS g).length cs')
           have bb9:=Below.setCell (p:=⟨lo,5,none⟩) bb HLE.out (.slice As' (fS g).length cs')
           have T9:=T7.setLo 5 (.slice As' (fS g).length cs')
           clear G bb T7
           have G:=G9
           have bb:=bb9
           have T7:=T9
           clear G9 bb9 T9
           refine hK.out _ _ bb (fun hS'=>?_)
           clear hK K hS
           have hS:=hS'
           clear hS'
           try simp only [Act.put,zq0,zq1,zq2,zq3,zq4,zq5]
           refine wpAnyH_take (i:=11) (v:=?_) rfl (by kernel_rfl) (by kernel_rfl) (by kernel_rfl) (fun _ _ _ h=>h) (Or.inl ⟨by rfl,?_⟩) hS ?_
           rotate_left
           · (intro w hSw;(try dsimp only at hSw);go_simp;(try with_reducible rfl))
           rotate_left
           simp only [Act.put,zq0,zq1,zq2,zq3,zq4,zq5]
           refine wpAnyH_ready (rs:=[12]) (by kernel_rfl) (by simp) ?_
           refine AllReadyH.cons rfl (fun K hK=>?_) AllReadyH.nil
           rw [if_pos (by rfl)]
           have fQ:=G.free
           have yQ:=G.cell
           go_simp
           clear fQ yQ
           have G9 : BoxOf _ lo #[.int .i64 (fN g),.int .u8 (kI g),.int .i64 (fA g),.int .i64 (fM g),.slice Ad (fD g).length cd,.slice As' (fS g).length cs',.slice Aq' (fQ g).length cq',.slice Ax m cx] 67:=mbox_self G 6 (.slice Aq' (fQ g).length cq')
           have bb9:=Below.setCell (p:=⟨lo,6,none⟩) bb HLE.out (.slice Aq' (fQ g).length cq')
           have T9:=T7.setLo 6 (.slice Aq' (fQ g).length cq')
           clear G bb T7
           have G:=G9
           have bb:=bb9
           have T7:=T9
           clear G9 bb9 T9
           refine hK.out _ _ bb (fun hS'=>?_)
           clear hK K hS
           have hS:=hS'
           clear hS'
           try simp only [Act.put,zq0,zq1,zq2,zq3,zq4,zq5]
           refine wpAnyH_take (i:=13) (v:=?_) rfl (by kernel_rfl) (by kernel_rfl) (by kernel_rfl) (fun _ _ _ h=>h) (Or.inl ⟨by rfl,?_⟩) hS ?_
           rotate_left
           · (intro w hSw;(try dsimp only at hSw);go_simp;(try with_reducible rfl))
           rotate_left
           simp only [Act.put,zq0,zq1,zq2,zq3,zq4,zq5]
           refine wpAnyH_ready (rs:=[14]) (by kernel_rfl) (by simp) ?_
           refine AllReadyH.cons rfl (fun K hK=>?_) AllReadyH.nil
           rw [if_pos (by rfl)]
           have fQ:=G.free
           have yQ:=G.cell
           go_simp
           clear fQ yQ
           have G9 : BoxOf _ lo #[.int .i64 (fN g),.int .u8 (kI g),.int .i64 (fA g),.int .i64 (fM g),.slice Ad (fD g).length cd,.slice As' (fS g).length cs',.slice Aq' (fQ g).length cq',.slice Ax' m cx'] 67:=mbox_self G 7 (.slice Ax' m cx')
           have bb9:=Below.setCell (p:=⟨lo,7,none⟩) bb HLE.out (.slice Ax' m cx')
           have T9:=T7.setLo 7 (.slice Ax' m cx')
           clear G bb T7
           have G:=G9
           have bb:=bb9
           have T7:=T9
           clear G9 bb9 T9
           refine hK.out _ _ bb (fun hS'=>?_)
           clear hK K hS
           have hS:=hS'
           clear hS'
           try simp only [Act.put,zq0,zq1,zq2,zq3,zq4,zq5]
           refine wpAnyH_done (by kernel_rfl) ?_ _
           have HG:=Lib.hid (And.intro G (And.intro bb T7))
           clear hS G bb T7
           go_wp2_with fail
           go_meet
           exact ⟨_,_,_,_,_,_,HG.out⟩
         · rw [if_pos (by rfl)]
           have yQ:=G.cell
           go_simp
           refine hK.out _ _ bb (fun hS'=>?_)
           clear yQ
           clear hK K hS
           have hS:=hS'
           clear hS'
           try simp only [Act.put,zq0,zq1,zq2,zq3,zq4,zq5]
           refine wpAnyH_ready (rs:=[2]) (by kernel_rfl) (by simp) ?_
           refine AllReadyH.cons rfl (fun K hK=>?_) AllReadyH.nil
           rw [if_pos (by rfl)]
           go_simp
           refine (HC2.out _ bb).mono ?_
           rintro e wB ⟨⟨vs,rfl,ns⟩,bB⟩
           have G9:=G.next bB
           have bb9:=Ext.trans bb bB
           clear G bb
           have G:=G9
           have bb:=bb9
           clear G9 bb9
           refine hK.out _ _ bb (fun hS'=>?_)
           clear hK K hS
           have hS:=hS'
           clear hS'
           try simp only [Act.put,zq0,zq1,zq2,zq3,zq4,zq5]
           refine wpAnyH_take (i:=9) (v:=?_) rfl (by kernel_rfl) (by kernel_rfl) (by kernel_rfl) (fun _ _ _ h=>h) (Or.inl ⟨by rfl,?_⟩) hS ?_
           rotate_left
           · (intro w hSw;(try dsimp only at hSw);go_simp;(try with_reducible rfl))
           rotate_left
           simp only [Act.put,zq0,zq1,zq2,zq3,zq4,zq5]
           refine wpAnyH_ready (rs:=[5]) (by kernel_rfl) (by simp) ?_
           refine AllReadyH.cons rfl (fun K hK=>?_) AllReadyH.nil
           rw [if_pos (by rfl)]
           go_simp
           refine (HC3.out _ bb).mono ?_
           rintro e wC ⟨⟨vq,rfl,nq'⟩,bC⟩
           have G9:=G.next bC
           have bb9:=Ext.trans bb bC
           clear G bb
           have G:=G9
           have bb:=bb9
           clear G9 bb9
           refine hK.out _ _ bb (fun hS'=>?_)
           clear hK K hS
           have hS:=hS'
           clear hS'
           try simp only [Act.put,zq0,zq1,zq2,zq3,zq4,zq5]
           refine wpAnyH_ready (rs:=[8]) (by kernel_rfl) (by simp) ?_
           refine AllReadyH.cons rfl (fun K hK=>?_) AllReadyH.nil
           rw [if_pos (by rfl)]
           go_simp
           refine (HC4.out _ bb).mono ?_
           rintro e wD ⟨⟨vx,rfl,nx⟩,bD⟩
           have G9:=G.next bD
           have bb9:=Ext.trans bb bD
           clear G bb
           have G:=G9
           have bb:=bb9
           clear G9 bb9
           have T7:=TwIn.start hlA bB bC bD D5 ns nq' nx (by have:=HML.out;have:=HM.out;omega)
           obtain ⟨As',cs',es⟩:=ns.slice
           obtain ⟨Aq',cq',eq'⟩:=nq'.slice
           obtain ⟨Ax',cx',ex⟩:=nx.slice
           rw [List.length_map] at es eq'
           rw [HML.out.1] at ex
           subst es eq' ex
           clear bB bC bD D5 ns nq' nx
           refine hK.out _ _ bb (fun hS'=>?_)
           clear hK K hS
           have hS:=hS'
           clear hS'
           try simp only [Act.put,zq0,zq1,zq2,zq3,zq4,zq5]
           refine wpAnyH_ready (rs:=[10]) (by kernel_rfl) (by simp) ?_
           refine AllReadyH.cons rfl (fun K hK=>?_) AllReadyH.nil
           rw [if_pos (by rfl)]
           have fQ:=G.free
           have yQ:=G.cell
           go_simp
           clear fQ yQ
           have G9 : BoxOf _ lo #[.int .i64 (fN g),.int .u8 (kI g),.int .i64 (fA g),.int .i64 (fM g),.slice Ad (fD g).length cd,.slice As' (fS g).length cs',.slice Aq (fQ g).length cq,.slice Ax m cx] 67:=mbox_self G 5 (.slice As' (fS g).length cs')
           have bb9:=Below.setCell (p:=⟨lo,5,none⟩) bb HLE.out (.slice As' (fS g).length cs')
           have T9:=T7.setLo 5 (.slice As' (fS g).length cs')
           clear G bb T7
           have G:=G9
           have bb:=bb9
           have T7:=T9
           clear G9 bb9 T9
           refine hK.out _ _ bb (fun hS'=>?_)
           clear hK K hS
           have hS:=hS'
           clear hS'
           try simp only [Act.put,zq0,zq1,zq2,zq3,zq4,zq5]
           refine wpAnyH_take (i:=11) (v:=?_) rfl (by kernel_rfl) (by kernel_rfl) (by kernel_rfl) (fun _ _ _ h=>h) (Or.inl ⟨by rfl,?_⟩) hS ?_
           rotate_left
           · (intro w hSw;(try dsimp only at hSw);go_simp;(try with_reducible rfl))
           rotate_left
           simp only [Act.put,zq0,zq1,zq2,zq3,zq4,zq5]
           refine wpAnyH_ready (rs:=[12]) (by kernel_rfl) (by simp) ?_
           refine AllReadyH.cons rfl (fun K hK=>?_) AllReadyH.nil
           rw [if_pos (by rfl)]
           have fQ:=G.free
           have yQ:=G.cell
           go_simp
           clear fQ yQ
           have G9 : BoxOf _ lo #[.int .i64 (fN g),.int .u8 (kI g),.int .i64 (fA g),.int .i64 (fM g),.slice Ad (fD g).length cd,.slice As' (fS g).length cs',.slice Aq' (fQ g).length cq',.slice Ax m cx] 67:=mbox_self G 6 (.slice Aq' (fQ g).length cq')
           have bb9:=Below.setCell (p:=⟨lo,6,none⟩) bb HLE.out (.slice Aq' (fQ g).length cq')
           have T9:=T7.setLo 6 (.slice Aq' (fQ g).length cq')
           clear G bb T7
           have G:=G9
           have bb:=bb9
           have T7:=T9
           clear G9 bb9 T9
           refine hK.out _ _ bb (fun hS'=>?_)
           clear hK K hS
           have hS:=hS'
           clear hS'
           try simp only [Act.put,zq0,zq1,zq2,zq3,zq4,zq5]
           refine wpAnyH_take (i:=13) (v:=?_) rfl (by kernel_rfl) (by kernel_rfl) (by kernel_rfl) (fun _ _ _ h=>h) (Or.inl ⟨by rfl,?_⟩) hS ?_
           rotate_left
           · (intro w hSw;(try dsimp only at hSw);go_simp;(try with_reducible rfl))
           rotate_left
           simp only [Act.put,zq0,zq1,zq2,zq3,zq4,zq5]
           refine wpAnyH_ready (rs:=[14]) (by kernel_rfl) (by simp) ?_
           refine AllReadyH.cons rfl (fun K hK=>?_) AllReadyH.nil
           rw [if_pos (by rfl)]
           have fQ:=G.free
           have yQ:=G.cell
           go_simp
           clear fQ yQ
           have G9 : BoxOf _ lo #[.int .i64 (fN g),.int .u8 (kI g),.int .i64 (fA g),.int .i64 (fM g),.slice Ad (fD g).length cd,.slice As' (fS g).length cs',.slice Aq' (fQ g).length cq',.slice Ax' m cx'] 67:=mbox_self G 7 (.slice Ax' m cx')
           have bb9:=Below.setCell (p:=⟨lo,7,none⟩) bb HLE.out (.slice Ax' m cx')
           have T9:=T7.setLo 7 (.slice Ax' m cx')
           clear G bb T7
           have G:=G9
           have bb:=bb9
           have T7:=T9
           clear G9 bb9 T9
           refine hK.out _ _ bb (fun hS'=>?_)
           clear hK K hS
           have hS:=hS'
           clear hS'
           try simp only [Act.put,zq0,zq1,zq2,zq3,zq4,zq5]
           refine wpAnyH_done (by kernel_rfl) ?_ _
           have HG:=Lib.hid (And.intro G (And.intro bb T7))
           clear hS G bb T7
           go_wp2_with fail
           go_meet
           exact ⟨_,_,_,_,_,_,HG.out⟩
     · rw [if_pos (by rfl)]
       have yQ:=G.cell
       go_simp
       refine hK.out _ _ bb (fun hS'=>?_)
       clear yQ
       clear hK K hS
       have hS:=hS'
       clear hS'
       try simp only [Act.put,zq0,zq1,zq2,zq3,zq4,zq5]
       refine wpAnyH_ready (rs:=[1,7]) (by kernel_rfl) (by simp) ?_
       refine AllReadyH.cons rfl (fun K hK=>?_) (AllReadyH.cons rfl (fun K hK=>?_) AllReadyH.nil)
       · rw [if_pos (by rfl)]
         have yQ:=G.cell
         go_simp
         refine hK.out _ _ bb (fun hS'=>?_)
         clear yQ
         clear hK K hS
         have hS:=hS'
         clear hS'
         try simp only [Act.put,zq0,zq1,zq2,zq3,zq4,zq5]
         refine wpAnyH_ready (rs:=[2,7]) (by kernel_rfl) (by simp) ?_
         refine AllReadyH.cons rfl (fun K hK=>?_) (AllReadyH.cons rfl (fun K hK=>?_) AllReadyH.nil)
         · rw [if_pos (by rfl)]
           go_simp
           refine (HC2.out _ bb).mono ?_
           rintro e wB ⟨⟨vs,rfl,ns⟩,bB⟩
           have G9:=G.next bB
           have bb9:=Ext.trans bb bB
           clear G bb
           have G:=G9
           have bb:=bb9
           clear G9 bb9
           refine hK.out _ _ bb (fun hS'=>?_)
           clear hK K hS
           have hS:=hS'
           clear hS'
           try simp only [Act.put,zq0,zq1,zq2,zq3,zq4,zq5]
           refine wpAnyH_ready (rs:=[5,7]) (by kernel_rfl) (by simp) ?_
           refine AllReadyH.cons rfl (fun K hK=>?_) (AllReadyH.cons rfl (fun K hK=>?_) AllReadyH.nil)
           · rw [if_pos (by rfl)]
             go_simp
             refine (HC3.out _ bb).mono ?_
             rintro e wC ⟨⟨vq,rfl,nq'⟩,bC⟩
             have G9:=G.next bC
             have bb9:=Ext.trans bb bC
             clear G bb
             have G:=G9
             have bb:=bb9
             clear G9 bb9
             refine hK.out _ _ bb (fun hS'=>?_)
             clear hK K hS
             have hS:=hS'
             clear hS'
             try simp only [Act.put,zq0,zq1,zq2,zq3,zq4,zq5]
             refine wpAnyH_ready (rs:=[7]) (by kernel_rfl) (by simp) ?_
             refine AllReadyH.cons rfl (fun K hK=>?_) AllReadyH.nil
             rw [if_pos (by rfl)]
             have yQ:=G.cell
             go_simp
             refine hK.out _ _ bb (fun hS'=>?_)
             clear yQ
             clear hK K hS
             have hS:=hS'
             clear hS'
             try simp only [Act.put,zq0,zq1,zq2,zq3,zq4,zq5]
             refine wpAnyH_take (i:=9) (v:=?_) rfl (by kernel_rfl) (by kernel_rfl) (by kernel_rfl) (fun _ _ _ h=>h) (Or.inl ⟨by rfl,?_⟩) hS ?_
             rotate_left
             · (intro w hSw;(try dsimp only at hSw);go_simp;(try with_reducible rfl))
             rotate_left
             simp only [Act.put,zq0,zq1,zq2,zq3,zq4,zq5]
             refine wpAnyH_ready (rs:=[8]) (by kernel_rfl) (by simp) ?_
             refine AllReadyH.cons rfl (fun K hK=>?_) AllReadyH.nil
             rw [if_pos (by rfl)]
             go_simp
             refine (HC4.out _ bb).mono ?_
             rintro e wD ⟨⟨vx,rfl,nx⟩,bD⟩
             have G9:=G.next bD
             have bb9:=Ext.trans bb bD
             clear G bb
             have G:=G9
             have bb:=bb9
             clear G9 bb9
             have T7:=TwIn.start hlA bB bC bD D5 ns nq' nx (by have:=HML.out;have:=HM.out;omega)
             obtain ⟨As',cs',es⟩:=ns.slice
             obtain ⟨Aq',cq',eq'⟩:=nq'.slice
             obtain ⟨Ax',cx',ex⟩:=nx.slice
             rw [List.length_map] at es eq'
             rw [HML.out.1] at ex
             subst es eq' ex
             clear bB bC bD D5 ns nq' nx
             refine hK.out _ _ bb (fun hS'=>?_)
             clear hK K hS
             have hS:=hS'
             clear hS'
             try simp only [Act.put,zq0,zq1,zq2,zq3,zq4,zq5]
             refine wpAnyH_ready (rs:=[10]) (by kernel_rfl) (by simp) ?_
             refine AllReadyH.cons rfl (fun K hK=>?_) AllReadyH.nil
             rw [if_pos (by rfl)]
             have fQ:=G.free
             have yQ:=G.cell
             go_simp
             clear fQ yQ
             have G9 : BoxOf _ lo #[.int .i64 (fN g),.int .u8 (kI g),.int .i64 (fA g),.int .i64 (fM g),.slice Ad (fD g).length cd,.slice As' (fS g).length cs',.slice Aq (fQ g).length cq,.slice Ax m cx] 67:=mbox_self G 5 (.slice As' (fS g).length cs')
             have bb9:=Below.setCell (p:=⟨lo,5,none⟩) bb HLE.out (.slice As' (fS g).length cs')
             have T9:=T7.setLo 5 (.slice As' (fS g).length cs')
             clear G bb T7
             have G:=G9
             have bb:=bb9
             have T7:=T9
             clear G9 bb9 T9
             refine hK.out _ _ bb (fun hS'=>?_)
             clear hK K hS
             have hS:=hS'
             clear hS'
             try simp only [Act.put,zq0,zq1,zq2,zq3,zq4,zq5]
             refine wpAnyH_take (i:=11) (v:=?_) rfl (by kernel_rfl) (by kernel_rfl) (by kernel_rfl) (fun _ _ _ h=>h) (Or.inl ⟨by rfl,?_⟩) hS ?_
             rotate_left
             · (intro w hSw;(try dsimp only at hSw);go_simp;(try with_reducible rfl))
             rotate_left
             simp only [Act.put,zq0,zq1,zq2,zq3,zq4,zq5]
             refine wpAnyH_ready (rs:=[12]) (by kernel_rfl) (by simp) ?_
             refine AllReadyH.cons rfl (fun K hK=>?_) AllReadyH.nil
             rw [if_pos (by rfl)]
             have fQ:=G.free
             have yQ:=G.cell
             go_simp
             clear fQ yQ
             have G9 : BoxOf _ lo #[.int .i64 (fN g),.int .u8 (kI g),.int .i64 (fA g),.int .i64 (fM g),.slice Ad (fD g).length cd,.slice As' (fS g).length cs',.slice Aq' (fQ g).length cq',.slice Ax m cx] 67:=mbox_self G 6 (.slice Aq' (fQ g).length cq')
             have bb9:=Below.setCell (p:=⟨lo,6,none⟩) bb HLE.out (.slice Aq' (fQ g).length cq')
             have T9:=T7.setLo 6 (.slice Aq' (fQ g).length cq')
             clear G bb T7
             have G:=G9
             have bb:=bb9
             have T7:=T9
             clear G9 bb9 T9
             refine hK.out _ _ bb (fun hS'=>?_)
             clear hK K hS
             have hS:=hS'
             clear hS'
             try simp only [Act.put,zq0,zq1,zq2,zq3,zq4,zq5]
             refine wpAnyH_take (i:=13) (v:=?_) rfl (by kernel_rfl) (by kernel_rfl) (by kernel_rfl) (fun _ _ _ h=>h) (Or.inl ⟨by rfl,?_⟩) hS ?_
             rotate_left
             · (intro w hSw;(try dsimp only at hSw);go_simp;(try with_reducible rfl))
             rotate_left
             simp only [Act.put,zq0,zq1,zq2,zq3,zq4,zq5]
             refine wpAnyH_ready (rs:=[14]) (by kernel_rfl) (by simp) ?_
             refine AllReadyH.cons rfl (fun K hK=>?_) AllReadyH.nil
             rw [if_pos (by rfl)]
             have fQ:=G.free
             have yQ:=G.cell
             go_simp
             clear fQ yQ
             have G9 : BoxOf _ lo #[.int .i64 (fN g),.int .u8 (kI g),.int .i64 (fA g),.int .i64 (fM g),.slice Ad (fD g).length cd,.slice As' (fS g).length cs',.slice Aq' (fQ g).length cq',.slice Ax' m cx'] 67:=mbox_self G 7 (.slice Ax' m cx')
             have bb9:=Below.setCell (p:=⟨lo,7,none⟩) bb HLE.out (.slice Ax' m cx')
             have T9:=T7.setLo 7 (.slice Ax' m cx')
             clear G bb T7
             have G:=G9
             have bb:=bb9
             have T7:=T9
             clear G9 bb9 T9
             refine hK.out _ _ bb (fun hS'=>?_)
             clear hK K hS
             have hS:=hS'
             clear hS'
             try simp only [Act.put,zq0,zq1,zq2,zq3,zq4,zq5]
             refine wpAnyH_done (by kernel_rfl) ?_ _
             have HG:=Lib.hid (And.intro G (And.intro bb T7))
             clear hS G bb T7
             go_wp2_with fail
             go_meet
             exact ⟨_,_,_,_,_,_,HG.out⟩
           · rw [if_pos (by rfl)]
             have yQ:=G.cell
             go_simp
             refine hK.out _ _ bb (fun hS'=>?_)
             clear yQ
             clear hK K hS
             have hS:=hS'
             clear hS'
             try simp only [Act.put,zq0,zq1,zq2,zq3,zq4,zq5]
             refine wpAnyH_take (i:=9) (v:=?_) rfl (by kernel_rfl) (by kernel_rfl) (by kernel_rfl) (fun _ _ _ h=>h) (Or.inl ⟨by rfl,?_⟩) hS ?_
             rotate_left
             · (intro w hSw;(try dsimp only at hSw);go_simp;(try with_reducible rfl))
             rotate_left
             simp only [Act.put,zq0,zq1,zq2,zq3,zq4,zq5]
             refine wpAnyH_ready (rs:=[5]) (by kernel_rfl) (by simp) ?_
             refine AllReadyH.cons rfl (fun K hK=>?_) AllReadyH.nil
             rw [if_pos (by rfl)]
             go_simp
             refine (HC3.out _ bb).mono ?_
             rintro e wC ⟨⟨vq,rfl,nq'⟩,bC⟩
             have G9:=G.next bC
             have bb9:=Ext.trans bb bC
             clear G bb
             have G:=G9
             have bb:=bb9
             clear G9 bb9
             refine hK.out _ _ bb (fun hS'=>?_)
             clear hK K hS
             have hS:=hS'
             clear hS'
             try simp only [Act.put,zq0,zq1,zq2,zq3,zq4,zq5]
             refine wpAnyH_ready (rs:=[8]) (by kernel_rfl) (by simp) ?_
             refine AllReadyH.cons rfl (fun K hK=>?_) AllReadyH.nil
             rw [if_pos (by rfl)]
             go_simp
             refine (HC4.out _ bb).mono ?_
             rintro e wD ⟨⟨vx,rfl,nx⟩,bD⟩
             have G9:=G.next bD
             have bb9:=Ext.trans bb bD
             clear G bb
             have G:=G9
             have bb:=bb9
             clear G9 bb9
             have T7:=TwIn.start hlA bB bC bD D5 ns nq' nx (by have:=HML.out;have:=HM.out;omega)
             obtain ⟨As',cs',es⟩:=ns.slice
             obtain ⟨Aq',cq',eq'⟩:=nq'.slice
             obtain ⟨Ax',cx',ex⟩:=nx.slice
             rw [List.length_map] at es eq'
             rw [HML.out.1] at ex
             subst es eq' ex
             clear bB bC bD D5 ns nq' nx
             refine hK.out _ _ bb (fun hS'=>?_)
             clear hK K hS
             have hS:=hS'
             clear hS'
             try simp only [Act.put,zq0,zq1,zq2,zq3,zq4,zq5]
             refine wpAnyH_ready (rs:=[10]) (by kernel_rfl) (by simp) ?_
             refine AllReadyH.cons rfl (fun K hK=>?_) AllReadyH.nil
             rw [if_pos (by rfl)]
             have fQ:=G.free
             have yQ:=G.cell
             go_simp
             clear fQ yQ
             have G9 : BoxOf _ lo #[.int .i64 (fN g),.int .u8 (kI g),.int .i64 (fA g),.int .i64 (fM g),.slice Ad (fD g).length cd,.slice As' (fS g).length cs',.slice Aq (fQ g).length cq,.slice Ax m cx] 67:=mbox_self G 5 (.slice As' (fS g).length cs')
             have bb9:=Below.setCell (p:=⟨lo,5,none⟩) bb HLE.out (.slice As' (fS g).length cs')
             have T9:=T7.setLo 5 (.slice As' (fS g).length cs')
             clear G bb T7
             have G:=G9
             have bb:=bb9
             have T7:=T9
             clear G9 bb9 T9
             refine hK.out _ _ bb (fun hS'=>?_)
             clear hK K hS
             have hS:=hS'
             clear hS'
             try simp only [Act.put,zq0,zq1,zq2,zq3,zq4,zq5]
             refine wpAnyH_take (i:=11) (v:=?_) rfl (by kernel_rfl) (by kernel_rfl) (by kernel_rfl) (fun _ _ _ h=>h) (Or.inl ⟨by rfl,?_⟩) hS ?_
             rotate_left
             · (intro w hSw;(try dsimp only at hSw);go_simp;(try with_reducible rfl))
             rotate_left
             simp only [Act.put,zq0,zq1,zq2,zq3,zq4,zq5]
             refine wpAnyH_ready (rs:=[12]) (by kernel_rfl) (by simp) ?_
             refine AllReadyH.cons rfl (fun K hK=>?_) AllReadyH.nil
             rw [if_pos (by rfl)]
             have fQ:=G.free
             have yQ:=G.cell
             go_simp
             clear fQ yQ
             have G9 : BoxOf _ lo #[.int .i64 (fN g),.int .u8 (kI g),.int .i64 (fA g),.int .i64 (fM g),.slice Ad (fD g).length cd,.slice As' (fS g).length cs',.slice Aq' (fQ g).length cq',.slice Ax m cx] 67:=mbox_self G 6 (.slice Aq' (fQ g).length cq')
             have bb9:=Below.setCell (p:=⟨lo,6,none⟩) bb HLE.out (.slice Aq' (fQ g).length cq')
             have T9:=T7.setLo 6 (.slice Aq' (fQ g).length cq')
             clear G bb T7
             have G:=G9
             have bb:=bb9
             have T7:=T9
             clear G9 bb9 T9
             refine hK.out _ _ bb (fun hS'=>?_)
             clear hK K hS
             have hS:=hS'
             clear hS'
             try simp only [Act.put,zq0,zq1,zq2,zq3,zq4,zq5]
             refine wpAnyH_take (i:=13) (v:=?_) rfl (by kernel_rfl) (by kernel_rfl) (by kernel_rfl) (fun _ _ _ h=>h) (Or.inl ⟨by rfl,?_⟩) hS ?_
             rotate_left
             · (intro w hSw;(try dsimp only at hSw);go_simp;(try with_reducible rfl))
             rotate_left
             simp only [Act.put,zq0,zq1,zq2,zq3,zq4,zq5]
             refine wpAnyH_ready (rs:=[14]) (by kernel_rfl) (by simp) ?_
             refine AllReadyH.cons rfl (fun K hK=>?_) AllReadyH.nil
             rw [if_pos (by rfl)]
             have fQ:=G.free
             have yQ:=G.cell
             go_simp
             clear fQ yQ
             have G9 : BoxOf _ lo #[.int .i64 (fN g),.int .u8 (kI g),.int .i64 (fA g),.int .i64 (fM g),.slice Ad (fD g).length cd,.slice As' (fS g).length cs',.slice Aq' (fQ g).length cq',.slice Ax' m cx'] 67:=mbox_self G 7 (.slice Ax' m cx')
             have bb9:=Below.setCell (p:=⟨lo,7,none⟩) bb HLE.out (.slice Ax' m cx')
             have T9:=T7.setLo 7 (.slice Ax' m cx')
             clear G bb T7
             have G:=G9
             have bb:=bb9
             have T7:=T9
             clear G9 bb9 T9
             refine hK.out _ _ bb (fun hS'=>?_)
             clear hK K hS
             have hS:=hS'
             clear hS'
             try simp only [Act.put,zq0,zq1,zq2,zq3,zq4,zq5]
             refine wpAnyH_done (by kernel_rfl) ?_ _
             have HG:=Lib.hid (And.intro G (And.intro bb T7))
             clear hS G bb T7
             go_wp2_with fail
             go_meet
             exact ⟨_,_,_,_,_,_,HG.out⟩
         · rw [if_pos (by rfl)]
           have yQ:=G.cell
           go_simp
           refine hK.out _ _ bb (fun hS'=>?_)
           clear yQ
           clear hK K hS
           have hS:=hS'
           clear hS'
           try simp only [Act.put,zq0,zq1,zq2,zq3,zq4,zq5]
           refine wpAnyH_ready (rs:=[2]) (by kernel_rfl) (by simp) ?_
           refine AllReadyH.cons rfl (fun K hK=>?_) AllReadyH.nil
           rw [if_pos (by rfl)]
           go_simp
           refine (HC2.out _ bb).mono ?_
           rintro e wB ⟨⟨vs,rfl,ns⟩,bB⟩
           have G9:=G.next bB
           have bb9:=Ext.trans bb bB
           clear G bb
           have G:=G9
           have bb:=bb9
           clear G9 bb9
           refine hK.out _ _ bb (fun hS'=>?_)
           clear hK K hS
           have hS:=hS'
           clear hS'
           try simp only [Act.put,zq0,zq1,zq2,zq3,zq4,zq5]
           refine wpAnyH_take (i:=9) (v:=?_) rfl (by kernel_rfl) (by kernel_rfl) (by kernel_rfl) (fun _ _ _ h=>h) (Or.inl ⟨by rfl,?_⟩) hS ?_
           rotate_left
           · (intro w hSw;(try dsimp only at hSw);go_simp;(try with_reducible rfl))
           rotate_left
           simp only [Act.put,zq0,zq1,zq2,zq3,zq4,zq5]
           refine wpAnyH_ready (rs:=[5]) (by kernel_rfl) (by simp) ?_
           refine AllReadyH.cons rfl (fun K hK=>?_) AllReadyH.nil
           rw [if_pos (by rfl)]
           go_simp
           refine (HC3.out _ bb).mono ?_
           rintro e wC ⟨⟨vq,rfl,nq'⟩,bC⟩
           have G9:=G.next bC
           have bb9:=Ext.trans bb bC
           clear G bb
           have G:=G9
           have bb:=bb9
           clear G9 bb9
           refine hK.out _ _ bb (fun hS'=>?_)
           clear hK K hS
           have hS:=hS'
           clear hS'
           try simp only [Act.put,zq0,zq1,zq2,zq3,zq4,zq5]
           refine wpAnyH_ready (rs:=[8]) (by kernel_rfl) (by simp) ?_
           refine AllReadyH.cons rfl (fun K hK=>?_) AllReadyH.nil
           rw [if_pos (by rfl)]
           go_simp
           refine (HC4.out _ bb).mono ?_
           rintro e wD ⟨⟨vx,rfl,nx⟩,bD⟩
           have G9:=G.next bD
           have bb9:=Ext.trans bb bD
           clear G bb
           have G:=G9
           have bb:=bb9
           clear G9 bb9
           have T7:=TwIn.start hlA bB bC bD D5 ns nq' nx (by have:=HML.out;have:=HM.out;omega)
           obtain ⟨As',cs',es⟩:=ns.slice
           obtain ⟨Aq',cq',eq'⟩:=nq'.slice
           obtain ⟨Ax',cx',ex⟩:=nx.slice
           rw [List.length_map] at es eq'
           rw [HML.out.1] at ex
           subst es eq' ex
           clear bB bC bD D5 ns nq' nx
           refine hK.out _ _ bb (fun hS'=>?_)
           clear hK K hS
           have hS:=hS'
           clear hS'
           try simp only [Act.put,zq0,zq1,zq2,zq3,zq4,zq5]
           refine wpAnyH_ready (rs:=[10]) (by kernel_rfl) (by simp) ?_
           refine AllReadyH.cons rfl (fun K hK=>?_) AllReadyH.nil
           rw [if_pos (by rfl)]
           have fQ:=G.free
           have yQ:=G.cell
           go_simp
           clear fQ yQ
           have G9 : BoxOf _ lo #[.int .i64 (fN g),.int .u8 (kI g),.int .i64 (fA g),.int .i64 (fM g),.slice Ad (fD g).length cd,.slice As' (fS g).length cs',.slice Aq (fQ g).length cq,.slice Ax m cx] 67:=mbox_self G 5 (.slice As' (fS g).length cs')
           have bb9:=Below.setCell (p:=⟨lo,5,none⟩) bb HLE.out (.slice As' (fS g).length cs')
           have T9:=T7.setLo 5 (.slice As' (fS g).length cs')
           clear G bb T7
           have G:=G9
           have bb:=bb9
           have T7:=T9
           clear G9 bb9 T9
           refine hK.out _ _ bb (fun hS'=>?_)
           clear hK K hS
           have hS:=hS'
           clear hS'
           try simp only [Act.put,zq0,zq1,zq2,zq3,zq4,zq5]
           refine wpAnyH_take (i:=11) (v:=?_) rfl (by kernel_rfl) (by kernel_rfl) (by kernel_rfl) (fun _ _ _ h=>h) (Or.inl ⟨by rfl,?_⟩) hS ?_
           rotate_left
           · (intro w hSw;(try dsimp only at hSw);go_simp;(try with_reducible rfl))
           rotate_left
           simp only [Act.put,zq0,zq1,zq2,zq3,zq4,zq5]
           refine wpAnyH_ready (rs:=[12]) (by kernel_rfl) (by simp) ?_
           refine AllReadyH.cons rfl (fun K hK=>?_) AllReadyH.nil
           rw [if_pos (by rfl)]
           have fQ:=G.free
           have yQ:=G.cell
           go_simp
           clear fQ yQ
           have G9 : BoxOf _ lo #[.int .i64 (fN g),.int .u8 (kI g),.int .i64 (fA g),.int .i64 (fM g),.slice Ad (fD g).length cd,.slice As' (fS g).length cs',.slice Aq' (fQ g).length cq',.slice Ax m cx] 67:=mbox_self G 6 (.slice Aq' (fQ g).length cq')
           have bb9:=Below.setCell (p:=⟨lo,6,none⟩) bb HLE.out (.slice Aq' (fQ g).length cq')
           have T9:=T7.setLo 6 (.slice Aq' (fQ g).length cq')
           clear G bb T7
           have G:=G9
           have bb:=bb9
           have T7:=T9
           clear G9 bb9 T9
           refine hK.out _ _ bb (fun hS'=>?_)
           clear hK K hS
           have hS:=hS'
           clear hS'
           try simp only [Act.put,zq0,zq1,zq2,zq3,zq4,zq5]
           refine wpAnyH_take (i:=13) (v:=?_) rfl (by kernel_rfl) (by kernel_rfl) (by kernel_rfl) (fun _ _ _ h=>h) (Or.inl ⟨by rfl,?_⟩) hS ?_
           rotate_left
           · (intro w hSw;(try dsimp only at hSw);go_simp;(try with_reducible rfl))
           rotate_left
           simp only [Act.put,zq0,zq1,zq2,zq3,zq4,zq5]
           refine wpAnyH_ready (rs:=[14]) (by kernel_rfl) (by simp) ?_
           refine AllReadyH.cons rfl (fun K hK=>?_) AllReadyH.nil
           rw [if_pos (by rfl)]
           have fQ:=G.free
           have yQ:=G.cell
           go_simp
           clear fQ yQ
           have G9 : BoxOf _ lo #[.int .i64 (fN g),.int .u8 (kI g),.int .i64 (fA g),.int .i64 (fM g),.slice Ad (fD g).length cd,.slice As' (fS g).length cs',.slice Aq' (fQ g).length cq',.slice Ax' m cx'] 67:=mbox_self G 7 (.slice Ax' m cx')
           have bb9:=Below.setCell (p:=⟨lo,7,none⟩) bb HLE.out (.slice Ax' m cx')
           have T9:=T7.setLo 7 (.slice Ax' m cx')
           clear G bb T7
           have G:=G9
           have bb:=bb9
           have T7:=T9
           clear G9 bb9 T9
           refine hK.out _ _ bb (fun hS'=>?_)
           clear hK K hS
           have hS:=hS'
           clear hS'
           try simp only [Act.put,zq0,zq1,zq2,zq3,zq4,zq5]
           refine wpAnyH_done (by kernel_rfl) ?_ _
           have HG:=Lib.hid (And.intro G (And.intro bb T7))
           clear hS G bb T7
           go_wp2_with fail
           go_meet
           exact ⟨_,_,_,_,_,_,HG.out⟩
       · rw [if_pos (by rfl)]
         have yQ:=G.cell
         go_simp
         refine hK.out _ _ bb (fun hS'=>?_)
         clear yQ
         clear hK K hS
         have hS:=hS'
         clear hS'
         try simp only [Act.put,zq0,zq1,zq2,zq3,zq4,zq5]
         refine wpAnyH_ready (rs:=[1]) (by kernel_rfl) (by simp) ?_
         refine AllReadyH.cons rfl (fun K hK=>?_) AllReadyH.nil
         rw [if_pos (by rfl)]
         have yQ:=G.cell
         go_simp
         refine hK.out _ _ bb (fun hS'=>?_)
         clear yQ
         clear hK K hS
         have hS:=hS'
         clear hS'
         try simp only [Act.put,zq0,zq1,zq2,zq3,zq4,zq5]
         refine wpAnyH_ready (rs:=[2]) (by kernel_rfl) (by simp) ?_
         refine AllReadyH.cons rfl (fun K hK=>?_) AllReadyH.nil
         rw [if_pos (by rfl)]
         go_simp
         refine (HC2.out _ bb).mono ?_
         rintro e wB ⟨⟨vs,rfl,ns⟩,bB⟩
         have G9:=G.next bB
         have bb9:=Ext.trans bb bB
         clear G bb
         have G:=G9
         have bb:=bb9
         clear G9 bb9
         refine hK.out _ _ bb (fun hS'=>?_)
         clear hK K hS
         have hS:=hS'
         clear hS'
         try simp only [Act.put,zq0,zq1,zq2,zq3,zq4,zq5]
         refine wpAnyH_take (i:=9) (v:=?_) rfl (by kernel_rfl) (by kernel_rfl) (by kernel_rfl) (fun _ _ _ h=>h) (Or.inl ⟨by rfl,?_⟩) hS ?_
         rotate_left
         · (intro w hSw;(try dsimp only at hSw);go_simp;(try with_reducible rfl))
         rotate_left
         simp only [Act.put,zq0,zq1,zq2,zq3,zq4,zq5]
         refine wpAnyH_ready (rs:=[5]) (by kernel_rfl) (by simp) ?_
         refine AllReadyH.cons rfl (fun K hK=>?_) AllReadyH.nil
         rw [if_pos (by rfl)]
         go_simp
         refine (HC3.out _ bb).mono ?_
         rintro e wC ⟨⟨vq,rfl,nq'⟩,bC⟩
         have G9:=G.next bC
         have bb9:=Ext.trans bb bC
         clear G bb
         have G:=G9
         have bb:=bb9
         clear G9 bb9
         refine hK.out _ _ bb (fun hS'=>?_)
         clear hK K hS
         have hS:=hS'
         clear hS'
         try simp only [Act.put,zq0,zq1,zq2,zq3,zq4,zq5]
         refine wpAnyH_ready (rs:=[8]) (by kernel_rfl) (by simp) ?_
         refine AllReadyH.cons rfl (fun K hK=>?_) AllReadyH.nil
         rw [if_pos (by rfl)]
         go_simp
         refine (HC4.out _ bb).mono ?_
         rintro e wD ⟨⟨vx,rfl,nx⟩,bD⟩
         have G9:=G.next bD
         have bb9:=Ext.trans bb bD
         clear G bb
         have G:=G9
         have bb:=bb9
         clear G9 bb9
         have T7:=TwIn.start hlA bB bC bD D5 ns nq' nx (by have:=HML.out;have:=HM.out;omega)
         obtain ⟨As',cs',es⟩:=ns.slice
         obtain ⟨Aq',cq',eq'⟩:=nq'.slice
         obtain ⟨Ax',cx',ex⟩:=nx.slice
         rw [List.length_map] at es eq'
         rw [HML.out.1] at ex
         subst es eq' ex
         clear bB bC bD D5 ns nq' nx
         refine hK.out _ _ bb (fun hS'=>?_)
         clear hK K hS
         have hS:=hS'
         clear hS'
         try simp only [Act.put,zq0,zq1,zq2,zq3,zq4,zq5]
         refine wpAnyH_ready (rs:=[10]) (by kernel_rfl) (by simp) ?_
         refine AllReadyH.cons rfl (fun K hK=>?_) AllReadyH.nil
         rw [if_pos (by rfl)]
         have fQ:=G.free
         have yQ:=G.cell
         go_simp
         clear fQ yQ
         have G9 : BoxOf _ lo #[.int .i64 (fN g),.int .u8 (kI g),.int .i64 (fA g),.int .i64 (fM g),.slice Ad (fD g).length cd,.slice As' (fS g).length cs',.slice Aq (fQ g).length cq,.slice Ax m cx] 67:=mbox_self G 5 (.slice As' (fS g).length cs')
         have bb9:=Below.setCell (p:=⟨lo,5,none⟩) bb HLE.out (.slice As' (fS g).length cs')
         have T9:=T7.setLo 5 (.slice As' (fS g).length cs')
         clear G bb T7
         have G:=G9
         have bb:=bb9
         have T7:=T9
         clear G9 bb9 T9
         refine hK.out _ _ bb (fun hS'=>?_)
         clear hK K hS
         have hS:=hS'
         clear hS'
         try simp only [Act.put,zq0,zq1,zq2,zq3,zq4,zq5]
         refine wpAnyH_take (i:=11) (v:=?_) rfl (by kernel_rfl) (by kernel_rfl) (by kernel_rfl) (fun _ _ _ h=>h) (Or.inl ⟨by rfl,?_⟩) hS ?_
         rotate_left
         · (intro w hSw;(try dsimp only at hSw);go_simp;(try with_reducible rfl))
         rotate_left
         simp only [Act.put,zq0,zq1,zq2,zq3,zq4,zq5]
         refine wpAnyH_ready (rs:=[12]) (by kernel_rfl) (by simp) ?_
         refine AllReadyH.cons rfl (fun K hK=>?_) AllReadyH.nil
         rw [if_pos (by rfl)]
         have fQ:=G.free
         have yQ:=G.cell
         go_simp
         clear fQ yQ
         have G9 : BoxOf _ lo #[.int .i64 (fN g),.int .u8 (kI g),.int .i64 (fA g),.int .i64 (fM g),.slice Ad (fD g).length cd,.slice As' (fS g).length cs',.slice Aq' (fQ g).length cq',.slice Ax m cx] 67:=mbox_self G 6 (.slice Aq' (fQ g).length cq')
         have bb9:=Below.setCell (p:=⟨lo,6,none⟩) bb HLE.out (.slice Aq' (fQ g).length cq')
         have T9:=T7.setLo 6 (.slice Aq' (fQ g).length cq')
         clear G bb T7
         have G:=G9
         have bb:=bb9
         have T7:=T9
         clear G9 bb9 T9
         refine hK.out _ _ bb (fun hS'=>?_)
         clear hK K hS
         have hS:=hS'
         clear hS'
         try simp only [Act.put,zq0,zq1,zq2,zq3,zq4,zq5]
         refine wpAnyH_take (i:=13) (v:=?_) rfl (by kernel_rfl) (by kernel_rfl) (by kernel_rfl) (fun _ _ _ h=>h) (Or.inl ⟨by rfl,?_⟩) hS ?_
         rotate_left
         · (intro w hSw;(try dsimp only at hSw);go_simp;(try with_reducible rfl))
         rotate_left
         simp only [Act.put,zq0,zq1,zq2,zq3,zq4,zq5]
         refine wpAnyH_ready (rs:=[14]) (by kernel_rfl) (by simp) ?_
         refine AllReadyH.cons rfl (fun K hK=>?_) AllReadyH.nil
         rw [if_pos (by rfl)]
         have fQ:=G.free
         have yQ:=G.cell
         go_simp
         clear fQ yQ
         have G9 : BoxOf _ lo #[.int .i64 (fN g),.int .u8 (kI g),.int .i64 (fA g),.int .i64 (fM g),.slice Ad (fD g).length cd,.slice As' (fS g).length cs',.slice Aq' (fQ g).length cq',.slice Ax' m cx'] 67:=mbox_self G 7 (.slice Ax' m cx')
         have bb9:=Below.setCell (p:=⟨lo,7,none⟩) bb HLE.out (.slice Ax' m cx')
         have T9:=T7.setLo 7 (.slice Ax' m cx')
         clear G bb T7
         have G:=G9
         have bb:=bb9
         have T7:=T9
         clear G9 bb9 T9
         refine hK.out _ _ bb (fun hS'=>?_)
         clear hK K hS
         have hS:=hS'
         clear hS'
         try simp only [Act.put,zq0,zq1,zq2,zq3,zq4,zq5]
         refine wpAnyH_done (by kernel_rfl) ?_ _
         have HG:=Lib.hid (And.intro G (And.intro bb T7))
         clear hS G bb T7
         go_wp2_with fail
         go_meet
         exact ⟨_,_,_,_,_,_,HG.out⟩
     · rw [if_pos (by rfl)]
       have yQ:=G.cell
       go_simp
       refine hK.out _ _ bb (fun hS'=>?_)
       clear yQ
       clear hK K hS
       have hS:=hS'
       clear hS'
       try simp only [Act.put,zq0,zq1,zq2,zq3,zq4,zq5]
       refine wpAnyH_ready (rs:=[1,4]) (by kernel_rfl) (by simp) ?_
       refine AllReadyH.cons rfl (fun K hK=>?_) (AllReadyH.cons rfl (fun K hK=>?_) AllReadyH.nil)
       · rw [if_pos (by rfl)]
         have yQ:=G.cell
         go_simp
         refine hK.out _ _ bb (fun hS'=>?_)
         clear yQ
         clear hK K hS
         have hS:=hS'
         clear hS'
         try simp only [Act.put,zq0,zq1,zq2,zq3,zq4,zq5]
         refine wpAnyH_ready (rs:=[2,4]) (by kernel_rfl) (by simp) ?_
         refine AllReadyH.cons rfl (fun K hK=>?_) (AllReadyH.cons rfl (fun K hK=>?_) AllReadyH.nil)
         · rw [if_pos (by rfl)]
           go_simp
           refine (HC2.out _ bb).mono ?_
           rintro e wB ⟨⟨vs,rfl,ns⟩,bB⟩
           have G9:=G.next bB
           have bb9:=Ext.trans bb bB
           clear G bb
           have G:=G9
           have bb:=bb9
           clear G9 bb9
           refine hK.out _ _ bb (fun hS'=>?_)
           clear hK K hS
           have hS:=hS'
           clear hS'
           try simp only [Act.put,zq0,zq1,zq2,zq3,zq4,zq5]
           refine wpAnyH_ready (rs:=[4]) (by kernel_rfl) (by simp) ?_
           refine AllReadyH.cons rfl (fun K hK=>?_) AllReadyH.nil
           rw [if_pos (by rfl)]
           have yQ:=G.cell
           go_simp
           refine hK.out _ _ bb (fun hS'=>?_)
           clear yQ
           clear hK K hS
           have hS:=hS'
           clear hS'
           try simp only [Act.put,zq0,zq1,zq2,zq3,zq4,zq5]
           refine wpAnyH_take (i:=9) (v:=?_) rfl (by kernel_rfl) (by kernel_rfl) (by kernel_rfl) (fun _ _ _ h=>h) (Or.inl ⟨by rfl,?_⟩) hS ?_
           rotate_left
           · (intro w hSw;(try dsimp only at hSw);go_simp;(try with_reducible rfl))
           rotate_left
           simp only [Act.put,zq0,zq1,zq2,zq3,zq4,zq5]
           refine wpAnyH_ready (rs:=[5]) (by kernel_rfl) (by simp) ?_
           refine AllReadyH.cons rfl (fun K hK=>?_) AllReadyH.nil
           rw [if_pos (by rfl)]
           go_simp
           refine (HC3.out _ bb).mono ?_
           rintro e wC ⟨⟨vq,rfl,nq'⟩,bC⟩
           have G9:=G.next bC
           have bb9:=Ext.trans bb bC
           clear G bb
           have G:=G9
           have bb:=bb9
           clear G9 bb9
           refine hK.out _ _ bb (fun hS'=>?_)
           clear hK K hS
           have hS:=hS'
           clear hS'
           try simp only [Act.put,zq0,zq1,zq2,zq3,zq4,zq5]
           refine wpAnyH_ready (rs:=[8]) (by kernel_rfl) (by simp) ?_
           refine AllReadyH.cons rfl (fun K hK=>?_) AllReadyH.nil
           rw [if_pos (by rfl)]
           go_simp
           refine (HC4.out _ bb).mono ?_
           rintro e wD ⟨⟨vx,rfl,nx⟩,bD⟩
           have G9:=G.next bD
           have bb9:=Ext.trans bb bD
           clear G bb
           have G:=G9
           have bb:=bb9
           clear G9 bb9
           have T7:=TwIn.start hlA bB bC bD D5 ns nq' nx (by have:=HML.out;have:=HM.out;omega)
           obtain ⟨As',cs',es⟩:=ns.slice
           obtain ⟨Aq',cq',eq'⟩:=nq'.slice
           obtain ⟨Ax',cx',ex⟩:=nx.slice
           rw [List.length_map] at es eq'
           rw [HML.out.1] at ex
           subst es eq' ex
           clear bB bC bD D5 ns nq' nx
           refine hK.out _ _ bb (fun hS'=>?_)
           clear hK K hS
           have hS:=hS'
           clear hS'
           try simp only [Act.put,zq0,zq1,zq2,zq3,zq4,zq5]
           refine wpAnyH_ready (rs:=[10]) (by kernel_rfl) (by simp) ?_
           refine AllReadyH.cons rfl (fun K hK=>?_) AllReadyH.nil
           rw [if_pos (by rfl)]
           have fQ:=G.free
           have yQ:=G.cell
           go_simp
           clear fQ yQ
           have G9 : BoxOf _ lo #[.int .i64 (fN g),.int .u8 (kI g),.int .i64 (fA g),.int .i64 (fM g),.slice Ad (fD g).length cd,.slice As' (fS g).length cs',.slice Aq (fQ g).length cq,.slice Ax m cx] 67:=mbox_self G 5 (.slice As' (fS g).length cs')
           have bb9:=Below.setCell (p:=⟨lo,5,none⟩) bb HLE.out (.slice As' (fS g).length cs')
           have T9:=T7.setLo 5 (.slice As' (fS g).length cs')
           clear G bb T7
           have G:=G9
           have bb:=bb9
           have T7:=T9
           clear G9 bb9 T9
           refine hK.out _ _ bb (fun hS'=>?_)
           clear hK K hS
           have hS:=hS'
           clear hS'
           try simp only [Act.put,zq0,zq1,zq2,zq3,zq4,zq5]
           refine wpAnyH_take (i:=11) (v:=?_) rfl (by kernel_rfl) (by kernel_rfl) (by kernel_rfl) (fun _ _ _ h=>h) (Or.inl ⟨by rfl,?_⟩) hS ?_
           rotate_left
           · (intro w hSw;(try dsimp only at hSw);go_simp;(try with_reducible rfl))
           rotate_left
           simp only [Act.put,zq0,zq1,zq2,zq3,zq4,zq5]
           refine wpAnyH_ready (rs:=[12]) (by kernel_rfl) (by simp) ?_
           refine AllReadyH.cons rfl (fun K hK=>?_) AllReadyH.nil
           rw [if_pos (by rfl)]
           have fQ:=G.free
           have yQ:=G.cell
           go_simp
           clear fQ yQ
           have G9 : BoxOf _ lo #[.int .i64 (fN g),.int .u8 (kI g),.int .i64 (fA g),.int .i64 (fM g),.slice Ad (fD g).length cd,.slice As' (fS g).length cs',.slice Aq' (fQ g).length cq',.slice Ax m cx] 67:=mbox_self G 6 (.slice Aq' (fQ g).length cq')
           have bb9:=Below.setCell (p:=⟨lo,6,none⟩) bb HLE.out (.slice Aq' (fQ g).length cq')
           have T9:=T7.setLo 6 (.slice Aq' (fQ g).length cq')
           clear G bb T7
           have G:=G9
           have bb:=bb9
           have T7:=T9
           clear G9 bb9 T9
           refine hK.out _ _ bb (fun hS'=>?_)
           clear hK K hS
           have hS:=hS'
           clear hS'
           try simp only [Act.put,zq0,zq1,zq2,zq3,zq4,zq5]
           refine wpAnyH_take (i:=13) (v:=?_) rfl (by kernel_rfl) (by kernel_rfl) (by kernel_rfl) (fun _ _ _ h=>h) (Or.inl ⟨by rfl,?_⟩) hS ?_
           rotate_left
           · (intro w hSw;(try dsimp only at hSw);go_simp;(try with_reducible rfl))
           rotate_left
           simp only [Act.put,zq0,zq1,zq2,zq3,zq4,zq5]
           refine wpAnyH_ready (rs:=[14]) (by kernel_rfl) (by simp) ?_
           refine AllReadyH.cons rfl (fun K hK=>?_) AllReadyH.nil
           rw [if_pos (by rfl)]
           have fQ:=G.free
           have yQ:=G.cell
           go_simp
           clear fQ yQ
           have G9 : BoxOf _ lo #[.int .i64 (fN g),.int .u8 (kI g),.int .i64 (fA g),.int .i64 (fM g),.slice Ad (fD g).length cd,.slice As' (fS g).length cs',.slice Aq' (fQ g).length cq',.slice Ax' m cx'] 67:=mbox_self G 7 (.slice Ax' m cx')
           have bb9:=Below.setCell (p:=⟨lo,7,none⟩) bb HLE.out (.slice Ax' m cx')
           have T9:=T7.setLo 7 (.slice Ax' m cx')
           clear G bb T7
           have G:=G9
           have bb:=bb9
           have T7:=T9
           clear G9 bb9 T9
           refine hK.out _ _ bb (fun hS'=>?_)
           clear hK K hS
           have hS:=hS'
           clear hS'
           try simp only [Act.put,zq0,zq1,zq2,zq3,zq4,zq5]
           refine wpAnyH_done (by kernel_rfl) ?_ _
           have HG:=Lib.hid (And.intro G (And.intro bb T7))
           clear hS G bb T7
           go_wp2_with fail
           go_meet
           exact ⟨_,_,_,_,_,_,HG.out⟩
         · rw [if_pos (by rfl)]
           have yQ:=G.cell
           go_simp
           refine hK.out _ _ bb (fun hS'=>?_)
           clear yQ
           clear hK K hS
           have hS:=hS'
           clear hS'
           try simp only [Act.put,zq0,zq1,zq2,zq3,zq4,zq5]
           refine wpAnyH_ready (rs:=[2]) (by kernel_rfl) (by simp) ?_
           refine AllReadyH.cons rfl (fun K hK=>?_) AllReadyH.nil
           rw [if_pos (by rfl)]
           go_simp
           refine (HC2.out _ bb).mono ?_
           rintro e wB ⟨⟨vs,rfl,ns⟩,bB⟩
           have G9:=G.next bB
           have bb9:=Ext.trans bb bB
           clear G bb
           have G:=G9
           have bb:=bb9
           clear G9 bb9
           refine hK.out _ _ bb (fun hS'=>?_)
           clear hK K hS
           have hS:=hS'
           clear hS'
           try simp only [Act.put,zq0,zq1,zq2,zq3,zq4,zq5]
           refine wpAnyH_take (i:=9) (v:=?_) rfl (by kernel_rfl) (by kernel_rfl) (by kernel_rfl) (fun _ _ _ h=>h) (Or.inl ⟨by rfl,?_⟩) hS ?_
           rotate_left
           · (intro w hSw;(try dsimp only at hSw);go_simp;(try with_reducible rfl))
           rotate_left
           simp only [Act.put,zq0,zq1,zq2,zq3,zq4,zq5]
           refine wpAnyH_ready (rs:=[5]) (by kernel_rfl) (by simp) ?_
           refine AllReadyH.cons rfl (fun K hK=>?_) AllReadyH.nil
           rw [if_pos (by rfl)]
           go_simp
           refine (HC3.out _ bb).mono ?_
           rintro e wC ⟨⟨vq,rfl,nq'⟩,bC⟩
           have G9:=G.next bC
           have bb9:=Ext.trans bb bC
           clear G bb
           have G:=G9
           have bb:=bb9
           clear G9 bb9
           refine hK.out _ _ bb (fun hS'=>?_)
           clear hK K hS
           have hS:=hS'
           clear hS'
           try simp only [Act.put,zq0,zq1,zq2,zq3,zq4,zq5]
           refine wpAnyH_ready (rs:=[8]) (by kernel_rfl) (by simp) ?_
           refine AllReadyH.cons rfl (fun K hK=>?_) AllReadyH.nil
           rw [if_pos (by rfl)]
           go_simp
           refine (HC4.out _ bb).mono ?_
           rintro e wD ⟨⟨vx,rfl,nx⟩,bD⟩
           have G9:=G.next bD
           have bb9:=Ext.trans bb bD
           clear G bb
           have G:=G9
           have bb:=bb9
           clear G9 bb9
           have T7:=TwIn.start hlA bB bC bD D5 ns nq' nx (by have:=HML.out;have:=HM.out;omega)
           obtain ⟨As',cs',es⟩:=ns.slice
           obtain ⟨Aq',cq',eq'⟩:=nq'.slice
           obtain ⟨Ax',cx',ex⟩:=nx.slice
           rw [List.length_map] at es eq'
           rw [HML.out.1] at ex
           subst es eq' ex
           clear bB bC bD D5 ns nq' nx
           refine hK.out _ _ bb (fun hS'=>?_)
           clear hK K hS
           have hS:=hS'
           clear hS'
           try simp only [Act.put,zq0,zq1,zq2,zq3,zq4,zq5]
           refine wpAnyH_ready (rs:=[10]) (by kernel_rfl) (by simp) ?_
           refine AllReadyH.cons rfl (fun K hK=>?_) AllReadyH.nil
           rw [if_pos (by rfl)]
           have fQ:=G.free
           have yQ:=G.cell
           go_simp
           clear fQ yQ
           have G9 : BoxOf _ lo #[.int .i64 (fN g),.int .u8 (kI g),.int .i64 (fA g),.int .i64 (fM g),.slice Ad (fD g).length cd,.slice As' (fS g).length cs',.slice Aq (fQ g).length cq,.slice Ax m cx] 67:=mbox_self G 5 (.slice As' (fS g).length cs')
           have bb9:=Below.setCell (p:=⟨lo,5,none⟩) bb HLE.out (.slice As' (fS g).length cs')
           have T9:=T7.setLo 5 (.slice As' (fS g).length cs')
           clear G bb T7
           have G:=G9
           have bb:=bb9
           have T7:=T9
           clear G9 bb9 T9
           refine hK.out _ _ bb (fun hS'=>?_)
           clear hK K hS
           have hS:=hS'
           clear hS'
           try simp only [Act.put,zq0,zq1,zq2,zq3,zq4,zq5]
           refine wpAnyH_take (i:=11) (v:=?_) rfl (by kernel_rfl) (by kernel_rfl) (by kernel_rfl) (fun _ _ _ h=>h) (Or.inl ⟨by rfl,?_⟩) hS ?_
           rotate_left
           · (intro w hSw;(try dsimp only at hSw);go_simp;(try with_reducible rfl))
           rotate_left
           simp only [Act.put,zq0,zq1,zq2,zq3,zq4,zq5]
           refine wpAnyH_ready (rs:=[12]) (by kernel_rfl) (by simp) ?_
           refine AllReadyH.cons rfl (fun K hK=>?_) AllReadyH.nil
           rw [if_pos (by rfl)]
           have fQ:=G.free
           have yQ:=G.cell
           go_simp
           clear fQ yQ
           have G9 : BoxOf _ lo #[.int .i64 (fN g),.int .u8 (kI g),.int .i64 (fA g),.int .i64 (fM g),.slice Ad (fD g).length cd,.slice As' (fS g).length cs',.slice Aq' (fQ g).length cq',.slice Ax m cx] 67:=mbox_self G 6 (.slice Aq' (fQ g).length cq')
           have bb9:=Below.setCell (p:=⟨lo,6,none⟩) bb HLE.out (.slice Aq' (fQ g).length cq')
           have T9:=T7.setLo 6 (.slice Aq' (fQ g).length cq')
           clear G bb T7
           have G:=G9
           have bb:=bb9
           have T7:=T9
           clear G9 bb9 T9
           refine hK.out _ _ bb (fun hS'=>?_)
           clear hK K hS
           have hS:=hS'
           clear hS'
           try simp only [Act.put,zq0,zq1,zq2,zq3,zq4,zq5]
           refine wpAnyH_take (i:=13) (v:=?_) rfl (by kernel_rfl) (by kernel_rfl) (by kernel_rfl) (fun _ _ _ h=>h) (Or.inl ⟨by rfl,?_⟩) hS ?_
           rotate_left
           · (intro w hSw;(try dsimp only at hSw);go_simp;(try with_reducible rfl))
           rotate_left
           simp only [Act.put,zq0,zq1,zq2,zq3,zq4,zq5]
           refine wpAnyH_ready (rs:=[14]) (by kernel_rfl) (by simp) ?_
           refine AllReadyH.cons rfl (fun K hK=>?_) AllReadyH.nil
           rw [if_pos (by rfl)]
           have fQ:=G.free
           have yQ:=G.cell
           go_simp
           clear fQ yQ
           have G9 : BoxOf _ lo #[.int .i64 (fN g),.int .u8 (kI g),.int .i64 (fA g),.int .i64 (fM g),.slice Ad (fD g).length cd,.slice As' (fS g).length cs',.slice Aq' (fQ g).length cq',.slice Ax' m cx'] 67:=mbox_self G 7 (.slice Ax' m cx')
           have bb9:=Below.setCell (p:=⟨lo,7,none⟩) bb HLE.out (.slice Ax' m cx')
           have T9:=T7.setLo 7 (.slice Ax' m cx')
           clear G bb T7
           have G:=G9
           have bb:=bb9
           have T7:=T9
           clear G9 bb9 T9
           refine hK.out _ _ bb (fun hS'=>?_)
           clear hK K hS
           have hS:=hS'
           clear hS'
           try simp only [Act.put,zq0,zq1,zq2,zq3,zq4,zq5]
           refine wpAnyH_done (by kernel_rfl) ?_ _
           have HG:=Lib.hid (And.intro G (And.intro bb T7))
           clear hS G bb T7
           go_wp2_with fail
           go_meet
           exact ⟨_,_,_,_,_,_,HG.out⟩
       · rw [if_pos (by rfl)]
         have yQ:=G.cell
         go_simp
         refine hK.out _ _ bb (fun hS'=>?_)
         clear yQ
         clear hK K hS
         have hS:=hS'
         clear hS'
         try simp only [Act.put,zq0,zq1,zq2,zq3,zq4,zq5]
         refine wpAnyH_ready (rs:=[1]) (by kernel_rfl) (by simp) ?_
         refine AllReadyH.cons rfl (fun K hK=>?_) AllReadyH.nil
         rw [if_pos (by rfl)]
         have yQ:=G.cell
         go_simp
         refine hK.out _ _ bb (fun hS'=>?_)
         clear yQ
         clear hK K hS
         have hS:=hS'
         clear hS'
         try simp only [Act.put,zq0,zq1,zq2,zq3,zq4,zq5]
         refine wpAnyH_ready (rs:=[2]) (by kernel_rfl) (by simp) ?_
         refine AllReadyH.cons rfl (fun K hK=>?_) AllReadyH.nil
         rw [if_pos (by rfl)]
         go_simp
         refine (HC2.out _ bb).mono ?_
         rintro e wB ⟨⟨vs,rfl,ns⟩,bB⟩
         have G9:=G.next bB
         have bb9:=Ext.trans bb bB
         clear G bb
         have G:=G9
         have bb:=bb9
         clear G9 bb9
         refine hK.out _ _ bb (fun hS'=>?_)
         clear hK K hS
         have hS:=hS'
         clear hS'
         try simp only [Act.put,zq0,zq1,zq2,zq3,zq4,zq5]
         refine wpAnyH_take (i:=9) (v:=?_) rfl (by kernel_rfl) (by kernel_rfl) (by kernel_rfl) (fun _ _ _ h=>h) (Or.inl ⟨by rfl,?_⟩) hS ?_
         rotate_left
         · (intro w hSw;(try dsimp only at hSw);go_simp;(try with_reducible rfl))
         rotate_left
         simp only [Act.put,zq0,zq1,zq2,zq3,zq4,zq5]
         refine wpAnyH_ready (rs:=[5]) (by kernel_rfl) (by simp) ?_
         refine AllReadyH.cons rfl (fun K hK=>?_) AllReadyH.nil
         rw [if_pos (by rfl)]
         go_simp
         refine (HC3.out _ bb).mono ?_
         rintro e wC ⟨⟨vq,rfl,nq'⟩,bC⟩
         have G9:=G.next bC
         have bb9:=Ext.trans bb bC
         clear G bb
         have G:=G9
         have bb:=bb9
         clear G9 bb9
         refine hK.out _ _ bb (fun hS'=>?_)
         clear hK K hS
         have hS:=hS'
         clear hS'
         try simp only [Act.put,zq0,zq1,zq2,zq3,zq4,zq5]
         refine wpAnyH_ready (rs:=[8]) (by kernel_rfl) (by simp) ?_
         refine AllReadyH.cons rfl (fun K hK=>?_) AllReadyH.nil
         rw [if_pos (by rfl)]
         go_simp
         refine (HC4.out _ bb).mono ?_
         rintro e wD ⟨⟨vx,rfl,nx⟩,bD⟩
         have G9:=G.next bD
         have bb9:=Ext.trans bb bD
         clear G bb
         have G:=G9
         have bb:=bb9
         clear G9 bb9
         have T7:=TwIn.start hlA bB bC bD D5 ns nq' nx (by have:=HML.out;have:=HM.out;omega)
         obtain ⟨As',cs',es⟩:=ns.slice
         obtain ⟨Aq',cq',eq'⟩:=nq'.slice
         obtain ⟨Ax',cx',ex⟩:=nx.slice
         rw [List.length_map] at es eq'
         rw [HML.out.1] at ex
         subst es eq' ex
         clear bB bC bD D5 ns nq' nx
         refine hK.out _ _ bb (fun hS'=>?_)
         clear hK K hS
         have hS:=hS'
         clear hS'
         try simp only [Act.put,zq0,zq1,zq2,zq3,zq4,zq5]
         refine wpAnyH_ready (rs:=[10]) (by kernel_rfl) (by simp) ?_
         refine AllReadyH.cons rfl (fun K hK=>?_) AllReadyH.nil
         rw [if_pos (by rfl)]
         have fQ:=G.free
         have yQ:=G.cell
         go_simp
         clear fQ yQ
         have G9 : BoxOf _ lo #[.int .i64 (fN g),.int .u8 (kI g),.int .i64 (fA g),.int .i64 (fM g),.slice Ad (fD g).length cd,.slice As' (fS g).length cs',.slice Aq (fQ g).length cq,.slice Ax m cx] 67:=mbox_self G 5 (.slice As' (fS g).length cs')
         have bb9:=Below.setCell (p:=⟨lo,5,none⟩) bb HLE.out (.slice As' (fS g).length cs')
         have T9:=T7.setLo 5 (.slice As' (fS g).length cs')
         clear G bb T7
         have G:=G9
         have bb:=bb9
         have T7:=T9
         clear G9 bb9 T9
         refine hK.out _ _ bb (fun hS'=>?_)
         clear hK K hS
         have hS:=hS'
         clear hS'
         try simp only [Act.put,zq0,zq1,zq2,zq3,zq4,zq5]
         refine wpAnyH_take (i:=11) (v:=?_) rfl (by kernel_rfl) (by kernel_rfl) (by kernel_rfl) (fun _ _ _ h=>h) (Or.inl ⟨by rfl,?_⟩) hS ?_
         rotate_left
         · (intro w hSw;(try dsimp only at hSw);go_simp;(try with_reducible rfl))
         rotate_left
         simp only [Act.put,zq0,zq1,zq2,zq3,zq4,zq5]
         refine wpAnyH_ready (rs:=[12]) (by kernel_rfl) (by simp) ?_
         refine AllReadyH.cons rfl (fun K hK=>?_) AllReadyH.nil
         rw [if_pos (by rfl)]
         have fQ:=G.free
         have yQ:=G.cell
         go_simp
         clear fQ yQ
         have G9 : BoxOf _ lo #[.int .i64 (fN g),.int .u8 (kI g),.int .i64 (fA g),.int .i64 (fM g),.slice Ad (fD g).length cd,.slice As' (fS g).length cs',.slice Aq' (fQ g).length cq',.slice Ax m cx] 67:=mbox_self G 6 (.slice Aq' (fQ g).length cq')
         have bb9:=Below.setCell (p:=⟨lo,6,none⟩) bb HLE.out (.slice Aq' (fQ g).length cq')
         have T9:=T7.setLo 6 (.slice Aq' (fQ g).length cq')
         clear G bb T7
         have G:=G9
         have bb:=bb9
         have T7:=T9
         clear G9 bb9 T9
         refine hK.out _ _ bb (fun hS'=>?_)
         clear hK K hS
         have hS:=hS'
         clear hS'
         try simp only [Act.put,zq0,zq1,zq2,zq3,zq4,zq5]
         refine wpAnyH_take (i:=13) (v:=?_) rfl (by kernel_rfl) (by kernel_rfl) (by kernel_rfl) (fun _ _ _ h=>h) (Or.inl ⟨by rfl,?_⟩) hS ?_
         rotate_left
         · (intro w hSw;(try dsimp only at hSw);go_simp;(try with_reducible rfl))
         rotate_left
         simp only [Act.put,zq0,zq1,zq2,zq3,zq4,zq5]
         refine wpAnyH_ready (rs:=[14]) (by kernel_rfl) (by simp) ?_
         refine AllReadyH.cons rfl (fun K hK=>?_) AllReadyH.nil
         rw [if_pos (by rfl)]
         have fQ:=G.free
         have yQ:=G.cell
         go_simp
         clear fQ yQ
         have G9 : BoxOf _ lo #[.int .i64 (fN g),.int .u8 (kI g),.int .i64 (fA g),.int .i64 (fM g),.slice Ad (fD g).length cd,.slice As' (fS g).length cs',.slice Aq' (fQ g).length cq',.slice Ax' m cx'] 67:=mbox_self G 7 (.slice Ax' m cx')
         have bb9:=Below.setCell (p:=⟨lo,7,none⟩) bb HLE.out (.slice Ax' m cx')
         have T9:=T7.setLo 7 (.slice Ax' m cx')
         clear G bb T7
         have G:=G9
         have bb:=bb9
         have T7:=T9
         clear G9 bb9 T9
         refine hK.out _ _ bb (fun hS'=>?_)
         clear hK K hS
         have hS:=hS'
         clear hS'
         try simp only [Act.put,zq0,zq1,zq2,zq3,zq4,zq5]
         refine wpAnyH_done (by kernel_rfl) ?_ _
         have HG:=Lib.hid (And.intro G (And.intro bb T7))
         clear hS G bb T7
         go_wp2_with fail
         go_meet
         exact ⟨_,_,_,_,_,_,HG.out⟩
    case rest=>
     obtain ⟨As',cs',Aq',cq',Ax',cx',G5,b5,T5⟩:=hcut
     clear G3 b3 HD HC2 HC3 HC4
     generalize wc = w5 at *
     have x5:=G5.cell
     obtain ⟨wo,rfl⟩ : ∃ z : World,z = wr:=⟨_,rfl⟩
     go_wp2
     clear x5
     go_loopw [5,6,34] (fun s5 s6 i wq=>∃ (j : Nat) (hs : List Value),j ≤ m ∧ i = .int .i64 (j : Int) ∧ Below wo.heap.size wo wq ∧ BoxOf wq lo #[.int .i64 (fN g),.int .u8 (kI g),.int .i64 (fA g),.int .i64 (fM g),.slice Ad (fD g).length cd,.slice As' (fS g).length cs',.slice Aq' (fQ g).length cq',.slice Ax' m cx'] 67 ∧ TwIn wq lo g (.slice Ad (fD g).length cd) (.slice As' (fS g).length cs') (.slice Aq' (fQ g).length cq') (.slice Ax' m cx') hs0 hs j) (fun _ _ i _=>m - (intOf i).toNat)
     case atStart=>exact ⟨0,hs0,by omega,rfl,b5,G5,T5⟩
     case round=>
      obtain ⟨j,hs,hj,rfl,b6,G6,T6⟩:=hrel
      clear b5 G5 T5
      by_cases hlj : j < m
      · have hjs : j < hs.length:=by have:=T6.len;have:=HM.out;omega
        have hjb : j < (fB g).length:=by have:=HM.out;omega
        have hj0 : j < hs0.length:=by have:=HML.out;omega
        obtain ⟨R,cap,eR,hcell⟩:=T6.row.cell hjs
        injection eR with eR1 eR2 eR3
        subst eR1
        clear eR2 eR3
        obtain ⟨R',cap',cur,eR',hRv,hRB,hcs⟩:=T6.row.at hjs
        injection eR' with eR1 eR2 eR3
        clear eR2 eR3
        injection eR1 with eR1
        injection eR1 with eR1 eR2 eR3
        clear eR2 eR3
        subst eR1
        have ehs : hs[j] = hs0[j]:=by
         have h1:=T6.old j (Nat.le_refl j)
         rw [List.getElem?_eq_getElem hjs,List.getElem?_eq_getElem hj0] at h1
         exact Option.some.inj h1
        have r5:=HC5.out j hj0 hjb
        rw [← ehs] at r5
        obtain ⟨Ai,ci,ei⟩:=bytesV r5
        rw [ei] at r5 hcell
        obtain ⟨bs,hbs⟩ : ∃ z : List UInt8,z = (fB g)[j]:=⟨_,rfl⟩
        have HBS : Hid (∀ h : j < (fB g).length,bs = (fB g)[j]):=fun _=>hbs
        rw [← hbs] at r5 hcell
        have HCL : Hid (∀ w',Below wo.heap.size wo w' → Calls Try.prog 43 #[.slice Ai bs.length ci] w' fun e w''=>(∃ v,e = .returned v ∧ RdIn w'' (NewB w'.heap.size w'') (.sl .byte) bs [v]) ∧ Below w'.heap.size w' w''):=fun w' bb=>clone_any S bs Ai ci w' (r5.below bb)
        have HJS:=Lib.hid (And.intro hjs hjb)
        have HRV:=Lib.hid hRv
        have HWQ:=next_wrap HML.out.2 hlj
        have HLQ:=Lib.hid hlj
        have x6:=G6.cell
        have HCS:=Lib.hid hcs
        clear r5 ei ehs hbs hj0 hRv hcs
        go_upto_region 9 with fail
        clear x6 hcell
        refine wp_region_held_drew (S:=fun w'=>∀ p,w'.cell? ⟨lo,p,none⟩ = (#[.int .i64 (fN g),.int .u8 (kI g),.int .i64 (fA g),.int .i64 (fM g),.slice Ad (fD g).length cd,.slice As' (fS g).length cs',.slice Aq' (fQ g).length cq',.slice (some ⟨R,0,none⟩) m cx'] : Array Value).toList[p]?) (by kernel_rfl) G6.drew.cell (fun hS=>?_)
        have bd:=Ext.drew (Below.refl wr.heap.size wr)
        have G7:=G6.next bd
        have b7:=Ext.trans b6 bd
        have T7:=T6.next bd
        have B7:=hRB.next bd
        have hl7 : lo < wr.drew.heap.size:=G7.lt
        clear G6 b6 T6 hRB bd
        generalize wr.drew = wd at *
        refine wpAnyH_take (i:=0) (v:=?_) rfl (by kernel_rfl) (by kernel_rfl) (by kernel_rfl) (fun _ _ _ h=>h) (Or.inl ⟨by rfl,?_⟩) hS ?_
        rotate_left
        · (intro w hSw;(try dsimp only at hSw);go_simp;(try with_reducible rfl))
        rotate_left
        simp only [Act.put,zq0,zq1,zq2,zq3,zq4,zq5]
        refine wpAnyH_take (i:=1) (v:=?_) rfl (by kernel_rfl) (by kernel_rfl) (by kernel_rfl) (fun _ _ _ h=>h) (Or.inl ⟨by rfl,?_⟩) hS ?_
        rotate_left
        · (intro w hSw;(try dsimp only at hSw);go_simp;(try with_reducible rfl))
        rotate_left
        simp only [Act.put,zq0,zq1,zq2,zq3,zq4,zq5]
        refine wpAnyH_take (i:=2) (v:=?_) rfl (by kernel_rfl) (by kernel_rfl) (by kernel_rfl) (fun _ _ _ h=>h) (Or.inl ⟨by rfl,?_⟩) hS ?_
        rotate_left
        · (intro w hSw;(try dsimp only at hSw);go_simp;(try with_reducible rfl))
        rotate_left
        simp only [Act.put,zq0,zq1,zq2,zq3,zq4,zq5]
        refine wpAnyH_take (i:=3) (v:=?_) rfl (by kernel_rfl) (by kernel_rfl) (by kernel_rfl) (fun _ _ _ h=>h) (Or.inl ⟨by rfl,?_⟩) hS ?_
        rotate_left
        · (intro w hSw;(try dsimp only at hSw);go_simp;(try with_reducible rfl))
        rotate_left
        simp only [Act.put,zq0,zq1,zq2,zq3,zq4,zq5]
        refine wpAnyH_ready (rs:=[4]) (by kernel_rfl) (by simp) ?_
        refine AllReadyH.cons rfl (fun K hK=>?_) AllReadyH.nil
        rw [if_pos (by rfl)]
        go_simp
        refine (HCL.out _ b7).mono ?_
        rintro e w8 ⟨⟨u,rfl,ru⟩,b8⟩
        have G8:=G7.next b8
        have b9:=Ext.trans b7 b8
        have B8:=B7.next b8
        have HTP : Hid (TwIn (w8.setCell ⟨R,j,none⟩ u) lo g (.slice Ad (fD g).length cd) (.slice As' (fS g).length cs') (.slice Aq' (fQ g).length cq') (.slice (some ⟨R,0,none⟩) m cx') hs0 (hs.set j u) (j + 1)):=T7.put b8 HJS.out.1 HJS.out.2 (by rw [← HBS.out HJS.out.2];exact ru) hl7
        obtain ⟨Au,cu,rfl⟩:=bytesV ru
        refine hK.out _ _ G8.cell (fun hS'=>?_)
        clear G7 b7 T7 B7 hl7 ru b8
        clear hK K hS
        have hS:=hS'
        clear hS'
        try simp only [Act.put,zq0,zq1,zq2,zq3,zq4,zq5]
        have hcs:=HCS.out
        refine wpAnyH_ready (rs:=[5]) (by kernel_rfl) (by simp) ?_
        refine AllReadyH.cons rfl (fun K hK=>?_) AllReadyH.nil
        rw [if_pos (by rfl)]
        go_simp
        refine hK.out _ _ hS (fun hS'=>?_)
        clear hK K hS
        have hS:=hS'
        clear hS'
        try simp only [Act.put,zq0,zq1,zq2,zq3,zq4,zq5]
        refine wpAnyH_ready (rs:=[6]) (by kernel_rfl) (by simp) ?_
        refine AllReadyH.cons rfl (fun K hK=>?_) AllReadyH.nil
        rw [if_pos (by rfl)]
        have fQ : w8.frozen? ⟨R,j,none⟩ = false:=B8.free j
        obtain ⟨uo,yQ⟩ : ∃ uo,w8.cell? ⟨R,j,none⟩ = some uo:=⟨cur[j],by rw [B8.cell];simp [hcs]⟩
        go_simp
        clear fQ yQ
        have hRl : lo ≠ R:=by have:=HRV.out.1;omega
        have G9:=mbox_else G8 hRl j (.slice Au bs.length cu)
        have b10:=Below.setCell (p:=⟨R,j,none⟩) b9 (show wo.heap.size ≤ R by have:=HLO.out;have:=HRV.out.1;omega) (.slice Au bs.length cu)
        refine hK.out _ _ G9.cell (fun hS'=>?_)
        clear G8 b9 B8
        clear hK K hS
        have hS:=hS'
        clear hS'
        try simp only [Act.put,zq0,zq1,zq2,zq3,zq4,zq5]
        refine wpAnyH_done (by kernel_rfl) ?_ _
        clear hS hcs hRl
        generalize w8.setCell ⟨R,j,none⟩ (.slice Au bs.length cu) = w9 at *
        go_wp2
        go_roundw
        case rel=>exact ⟨j + 1,_,HLQ.out,by first | exact round_same HWQ | go_num,b10,G9,HTP.out⟩
        case measure=>first | exact round_less HWQ HLQ.out | (have h:=HLQ.out;simp [intOf];omega)
      · have HFE:=T6.done (by have:=HM.out;omega) HI.out HSM.out HZ.out
        have hlw : lo < wr.heap.size:=G6.lt
        have x6:=G6.cell
        have bA:=Ext.alloc (Below.refl wr.heap.size wr) (.cells #[.int .i64 (fN g),.int .u8 (kI g),.int .i64 (fA g),.int .i64 (fM g),.slice Ad (fD g).length cd,.slice As' (fS g).length cs',.slice Aq' (fQ g).length cq',.slice Ax' m cx'] 67)
        have rd6:=rd_row wr #[.int .i64 (fN g),.int .u8 (kI g),.int .i64 (fA g),.int .i64 (fM g),.slice Ad (fD g).length cd,.slice As' (fS g).length cs',.slice Aq' (fQ g).length cq',.slice Ax' m cx'] 67
        have E6 : flE.E (wr.alloc (.cells #[.int .i64 (fN g),.int .u8 (kI g),.int .i64 (fA g),.int .i64 (fM g),.slice Ad (fD g).length cd,.slice As' (fS g).length cs',.slice Aq' (fQ g).length cq',.slice Ax' m cx'] 67)) (Iv lo (wr.alloc (.cells #[.int .i64 (fN g),.int .u8 (kI g),.int .i64 (fA g),.int .i64 (fM g),.slice Ad (fD g).length cd,.slice As' (fS g).length cs',.slice Aq' (fQ g).length cq',.slice Ax' m cx'] 67)).heap.size) g [.int .i64 (fN g),.int .u8 (kI g),.int .i64 (fA g),.int .i64 (fM g),.slice Ad (fD g).length cd,.slice As' (fS g).length cs',.slice Aq' (fQ g).length cq',.slice Ax' m cx']:=⟨_,_,_,_,_,_,rfl,(HFE.frame fun b hb=>bA.block b hb.2).mono fun b hb=>⟨hb.1,Nat.lt_of_lt_of_le hb.2 bA.size⟩⟩
        have b8:=Ext.trans b6 bA
        have t8:=Ext.trans b1 b8
        have O8 : OwnE flE (wr.alloc (.cells #[.int .i64 (fN g),.int .u8 (kI g),.int .i64 (fA g),.int .i64 (fM g),.slice Ad (fD g).length cd,.slice As' (fS g).length cs',.slice Aq' (fQ g).length cq',.slice Ax' m cx'] 67)) (Iv W.heap.size lo) W.heap.size 67 u2 (fs.take k):=by
         have h:=OwnE.next O1 (fun b hb=>hb.2) b8
         rw [← HLO.out] at h
         exact h
        have hll : lo ≤ (wr.alloc (.cells #[.int .i64 (fN g),.int .u8 (kI g),.int .i64 (fA g),.int .i64 (fM g),.slice Ad (fD g).length cd,.slice As' (fS g).length cs',.slice Aq' (fQ g).length cq',.slice Ax' m cx'] 67)).heap.size:=Nat.le_trans (Nat.le_of_lt hlw) bA.size
        have hWl : W.heap.size ≤ lo:=by rw [HLO.out];exact b1.size
        have hkl : (fs.take k).length = k:=by rw [List.length_take];have:=HNL.out;have:=HLJ.out;omega
        have HBY : Hid ((fs.take k).length + 1 ≤ maxLen ∧ ((fs.take k).length + 1) * 128 ≤ 140737488355328):=by
         have h1:=HNM.out
         have h2:=HNZ.out
         have h3:=HLJ.out
         show _ ∧ _
         rw [hkl]
         omega
        clear HFE hkl T6 bA b6 b8 G6
        go_wp2_with (at_builtin;refine wpList_pushI rfl (.tmp 46) (.tmp 48) 25 rfl W.heap.size lo 67 ig _ 128 Try.underlying25 hig hg0 hg1 hg2 rfl (by decide) u2 (fs.take k) rfl O8 hll hWl (some ⟨wr.heap.size,0,none⟩) 1 _ rfl rd6 g E6 HBY.out.1 HBY.out.2 ?_;intro vz wz Oz gz kz;have tz:=Below.grown t8 gz t8.size kz;have Oy:=OwnE.cast HST.out.symm Oz;clear x6 O8 rd6 E6 t8 gz kz Oz)
        go_roundw
        case rel=>exact ⟨k + 1,HLJ.out,by first | exact round_same HWJ | go_num,tz,Oy⟩
        case measure=>first | exact round_less HWJ HLJ.out | (have h:=HLJ.out;simp [intOf];omega)
  · have hke : fs.take k = fs:=List.take_of_length_le (by have:=HNL.out;omega)
    unfold FlNew at O1
    rw [hke] at O1
    go_wp2
    go_ret
    exact ⟨⟨_,rfl,by have h:=HWW.out;subst h;exact O1⟩,bw⟩
end Go.Proofs.Ythapabjlhooglaa
