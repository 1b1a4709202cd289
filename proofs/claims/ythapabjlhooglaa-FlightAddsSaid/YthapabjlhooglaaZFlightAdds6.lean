/- What this claim needs of my texts, merged and shortened by a program (part 6). -/
import Derived.Deep.RegionHeld
import Derived.Below
import Derived.Maps.OwnSet
import Derived.Maps.OwnIn
import Derived.BigQuiet
import Derived.OwnWalk
import Derived.Shelf.Bytes.SlJoin
import Derived.Test.YthapabjlhooglaaZFlightAdds5
namespace Go.Proofs.Ythapabjlhooglaa
open Go Go.RowKit
set_option linter.unusedSimpArgs false
set_option linter.unusedVariables false
theorem NumRow.of_own {w : World} {base n lo hi : Nat} {tid : TypeId} {v : Value} {xs : List Value} (h : w.ownsRow base tid 1 v n xs) (hlo : lo ≤ base) (hhi : w.heap.size ≤ hi) : NumRow w (Iv lo hi) tid v xs:=by
 have hl:=h.1
 rw [Nat.mul_one] at hl
 rcases h.2 with ⟨e,h0⟩ | ⟨g,cap,cur,e,hg,hB,h3,h4,h5,h6⟩
 · have : xs = []:=List.eq_nil_of_length_eq_zero (by omega)
   subst this
   exact ⟨none,0,e,Nat.le_refl _,by unfold maxLen;omega,fun g hg=>(by rw [e] at hg;cases hg),.inl rfl⟩
 · refine ⟨_,cap,by rw [e,hl],by omega,h4,fun r hr=>?_,.inr ⟨g,cur,rfl,hB,?_⟩⟩
   · rw [e] at hr
     injection hr with hr
     subst hr
     exact ⟨Nat.le_trans hlo hg,Nat.lt_of_lt_of_le (BoxOf.lt hB) hhi⟩
   · rw [Nat.mul_one] at h6
     rw [hl]
     exact h6
theorem NumRow.grownBy {w w' : World} {lo : Nat} {tid : TypeId} {v : Value} {xs : List Value} {row : Option Nat} (h : NumRow w (Iv lo w.heap.size) tid v xs) (hg : w.grownBy w' row) (hr : ∀ g cur,BoxOf w g cur tid → row ≠ some g) : NumRow w' (Iv lo w'.heap.size) tid v xs:=by
 obtain ⟨A,cap,h0,h1,h2,h3,h4⟩:=h
 refine ⟨A,cap,h0,h1,h2,fun g hg'=>⟨(h3 g hg').1,Nat.lt_of_lt_of_le (h3 g hg').2 hg.size⟩,?_⟩
 rcases h4 with h4 | ⟨g,cur,e,h5,h6⟩
 · exact .inl h4
 · refine .inr ⟨g,cur,e,?_,h6⟩
   unfold BoxOf at *
   rw [hg.block g (BoxOf.lt h5) (fun e=>hr g cur h5 e.symm)]
   exact h5
theorem NumRow.set_row {w : World} {lo : Nat} {tid : TypeId} {v : Value} {xs : List Value} (h : NumRow w (Iv lo w.heap.size) tid v xs) {k : Nat} {cs : Array Value} {t : TypeId} (hk : BoxOf w k cs t) (ht : tid ≠ t) (ds : Array Value) : NumRow (w.setRow k ds) (Iv lo (w.setRow k ds).heap.size) tid v xs:=by
 obtain ⟨A,cap,h0,h1,h2,h3,h4⟩:=h
 refine ⟨A,cap,h0,h1,h2,fun g hg=>by rw [setRow_size];exact h3 g hg,?_⟩
 rcases h4 with h4 | ⟨g,cur,e,h5,h6⟩
 · exact .inl h4
 · exact .inr ⟨g,cur,e,h5.other (box_diff h5 hk ht) ds,h6⟩
theorem rows_box9 {w : World} {b1 e1 s1 n1 g t : Nat} {v : Value} {xs : List Value} {cs : Array Value} (h : w.ownsRow b1 e1 s1 v n1 xs) (k : BoxOf w g cs t) (he : e1 ≠ t) : v.ownBlock ≠ some g:=fun hr=>by
 rcases h.2 with ⟨e,_⟩ | ⟨g',cap,cur,e,_,hb,_⟩
 · subst e;cases hr
 subst e
 have h1 : g' = g:=Option.some.inj hr
 subst h1
 exact box_diff hb k he rfl
structure TwB (w : World) (lo : Nat) (g : FlTy.T) (vd vs vq vx : Value) (hs : List Value) (j : Nat) (T : Nat → Prop) : Prop where
 st : NumRow w (Iv lo w.heap.size) 5 vs ((fS g).map byteV)
 sq : NumRow w (Iv lo w.heap.size) 22 vq ((fQ g).map seqV)
 row : w.ownsRow lo 26 1 vx j hs
 dat : RdIn w T (.sl .byte) (fD g) [vd]
 each : ∀ i (h : i < hs.length) (h' : i < (fB g).length),RdIn w T (.sl .byte) (fB g)[i] [hs[i]]
 byt : ∀ b,T b → Iv lo w.heap.size b ∧ Live w b ∧ vs.ownBlock ≠ some b ∧ vq.ownBlock ≠ some b ∧ vx.ownBlock ≠ some b
section
variable {w w' : World} {lo j : Nat} {g : FlTy.T} {vd vs vq vx : Value} {hs : List Value} {T : Nat → Prop}
theorem NumRow.later {tid : TypeId} {v : Value} {xs : List Value} (h : NumRow w (Iv lo w.heap.size) tid v xs) (hb : Below w.heap.size w w') : NumRow w' (Iv lo w'.heap.size) tid v xs:=
 (h.frame fun b hb'=>hb.block b hb'.2).mono fun b hb'=>⟨hb'.1,Nat.lt_of_lt_of_le hb'.2 hb.size⟩
theorem TwB.next (h : TwB w lo g vd vs vq vx hs j T) (hb : Below w.heap.size w w') : TwB w' lo g vd vs vq vx hs j T where
 st:=h.st.later hb
 sq:=h.sq.later hb
 row:=own_next h.row hb
 dat:=h.dat.below hb
 each:=fun i h1 h2=>(h.each i h1 h2).below hb
 byt:=fun b hb'=>by
  obtain ⟨h1,h2,h3⟩:=h.byt b hb'
  exact ⟨⟨h1.1,Nat.lt_of_lt_of_le h1.2 hb.size⟩,h2.below hb,h3⟩
theorem TwB.box (h : TwB w lo g vd vs vq vx hs j T) {k : Nat} {cs : Array Value} {t : TypeId} (hk : BoxOf w k cs t) (h8 : (5 : TypeId) ≠ t) (h32 : (22 : TypeId) ≠ t) (hv : (26 : TypeId) ≠ t) (hT : ∀ b,T b → b ≠ k) (i : Nat) (u : Value) : TwB (w.setCell ⟨k,i,none⟩ u) lo g vd vs vq vx hs j T:=by
 have hs' : (w.setCell ⟨k,i,none⟩ u).heap.size = w.heap.size:=msize _ _ _
 exact {
  st:=by rw [hs'];exact h.st.setElse hk h8 i u
  sq:=by rw [hs'];exact h.sq.setElse hk h32 i u
  row:=own_frame h.row fun r hr=>Below.heap_setCell _ _ _ _ (show r ≠ k from fun e=>rows_box9 h.row hk hv (by rw [← e];exact hr))
  dat:=h.dat.frame fun b hb=>Below.heap_setCell _ _ _ _ (hT b hb)
  each:=fun i' h1 h2=>(h.each i' h1 h2).frame fun b hb=>Below.heap_setCell _ _ _ _ (hT b hb)
  byt:=fun b hb=>by
   obtain ⟨h1,h2,h3⟩:=h.byt b hb
   exact ⟨by rw [hs'];exact h1,live_set h2 _ _,h3⟩ }
theorem TwB.done (h : TwB w lo g vd vs vq vx hs j T) (hj : j = (fB g).length) (hi : IsInt (fN g) ∧ IsInt (fA g) ∧ IsInt (fM g)) (hq : ∀ q ∈ fQ g,q < 2 ^ 32) (hz : (fS g).length ≤ 140737488355328 ∧ (fQ g).length * 4 ≤ 140737488355328 ∧ (fB g).length * 24 ≤ 140737488355328) : FlEs w (Iv lo w.heap.size) g vd vs vq vx hs T where
 ints:=hi
 small:=hq
 size:=hz
 st:=h.st
 sq:=h.sq
 row:=NumRow.of_own h.row (Nat.le_refl _) (Nat.le_refl _)
 len:=by have:=h.row.1;omega
 dat:=h.dat
 each:=h.each
 byt:=h.byt
theorem TwB.push {w2 w3 : World} {u vx' : Value} (h : TwB w lo g vd vs vq vx hs j T) (hj : j < (fB g).length) (hlo : lo ≤ w.heap.size) (hb : Below w.heap.size w w2) (hu : RdIn w2 (NewB w.heap.size w2) (.sl .byte) (fB g)[j] [u])
 (hr : w3.ownsRow lo 26 1 vx' (j + 1) (hs ++ [u])) (hg : w2.grownBy w3 vx.ownBlock) (hk : vx'.ownBlock = vx.ownBlock ∨ vx'.ownBlock = some w2.heap.size) : TwB w3 lo g vd vs vq vx' (hs ++ [u]) (j + 1) (fun b=>T b ∨ NewB w.heap.size w2 b):=by
 have h2:=h.next hb
 have hlt : ∀ r,vx.ownBlock = some r → r < w.heap.size:=fun r hr=>own_lt h.row hr
 have keep : ∀ b,(T b ∨ NewB w.heap.size w2 b) → vx.ownBlock ≠ some b:=fun b hb' e=>by
  rcases hb' with hb' | hb'
  · exact (h.byt b hb').2.2.2.2 e
  · have:=hlt b e;have:=hb'.1;omega
 have typ : ∀ {tid : TypeId},tid ≠ 26 → ∀ b cur,BoxOf w2 b cur tid → vx.ownBlock ≠ some b:=fun ht b cur hB e=>by
  have h9:=own_next h.row hb
  rcases h9.2 with ⟨e2,_⟩ | ⟨g2,cap,cur2,e2,_,hB2,_⟩
  · rw [e2] at e;cases e
  · rw [e2] at e
    injection e with e
    subst e
    exact box_diff hB hB2 ht rfl
 have hl:=h.row.1
 rw [Nat.mul_one] at hl
 have F : ∀ {bs : List UInt8} {v : Value} {T' : Nat → Prop},(∀ b,T' b → T b ∨ NewB w.heap.size w2 b) → RdIn w2 T' (.sl .byte) bs [v] → RdIn w3 (fun b=>T b ∨ NewB w.heap.size w2 b) (.sl .byte) bs [v]:=fun hT' hr'=>((hr'.mono hT').grownBy hg fun b hb' e=>keep b hb' e)
 exact {
  st:=h2.st.grownBy hg (typ (by decide))
  sq:=h2.sq.grownBy hg (typ (by decide))
  row:=hr
  dat:=F (fun b h=>.inl h) h2.dat
  each:=fun i h1 h3=>by
   rw [List.length_append] at h1
   by_cases e : i < hs.length
   · rw [List.getElem_append_left e]
     exact F (fun b h=>.inl h) (h2.each i e h3)
   · have : i = hs.length:=by simp at h1;omega
     subst this
     rw [List.getElem_append_right (Nat.le_refl _)]
     simp only [Nat.sub_self,List.getElem_cons_zero]
     have e2 : (fB g)[hs.length]'h3 = (fB g)[j]'hj:=by congr 1
     rw [e2]
     exact F (fun b h=>.inr h) hu
  byt:=fun b hb'=>by
   have hbl : b < w2.heap.size:=by
    rcases hb' with hb' | hb'
    · exact (h2.byt b hb').1.2
    · exact hb'.2.1
   have hlb : lo ≤ b:=by
    rcases hb' with hb' | hb'
    · exact (h2.byt b hb').1.1
    · exact Nat.le_trans hlo hb'.1
   have hv : Live w2 b:=by
    rcases hb' with hb' | hb'
    · exact (h2.byt b hb').2.1
    · exact hb'.2.2
   have hs9 : ∀ {tid : TypeId} {v : Value} {xs : List Value},NumRow w (Iv lo w.heap.size) tid v xs → NewB w.heap.size w2 b → v.ownBlock ≠ some b:=fun hn hb9 e=>by
    obtain ⟨_,_,_,_,_,h6,_⟩:=hn
    have:=(h6 b e).2
    have:=hb9.1
    omega
   refine ⟨⟨hlb,Nat.lt_of_lt_of_le hbl hg.size⟩,hv.grown hg (fun e=>keep b hb' e.symm),?_,?_,?_⟩
   · rcases hb' with hb' | hb'
     · exact (h2.byt b hb').2.2.1
     · exact hs9 h.st hb'
   · rcases hb' with hb' | hb'
     · exact (h2.byt b hb').2.2.2.1
     · exact hs9 h.sq hb'
   · intro e
     rcases hk with hk | hk
     · rw [hk] at e;exact keep b hb' e
     · rw [hk] at e;injection e with e;omega }
end
end Go.Proofs.Ythapabjlhooglaa
namespace Go.Proofs.Ythapabjlhooglaa
open Go Go.RowKit
set_option linter.unusedSimpArgs false
set_option linter.unusedVariables false
def RowW (w : World) (lo hi : Nat) (A : Option Addr) (n : Nat) : Prop:=∀ q,q < n → ∃ b3 o3 x,A = some ⟨b3,o3,none⟩ ∧ (lo ≤ b3 ∧ b3 < hi) ∧ Live w b3 ∧ w.cell? ⟨b3,o3 + q,none⟩ = some (.int .u8 x)
def RowsW (w : World) (lo hi : Nat) (A : Option Addr) (n : Nat) : Prop:=∀ k,k < n → ∃ b2 o2 A6 n6 c6,A = some ⟨b2,o2,none⟩ ∧ w.cell? ⟨b2,o2 + k,none⟩ = some (.slice A6 n6 c6) ∧ n6 ≤ maxLen ∧ RowW w lo hi A6 n6
section
variable {w : World} {lo hi : Nat}
theorem row_w {bs : List UInt8} {A : Option Addr} {n c : Nat} (h : RdIn w (InL w lo hi) (.sl .byte) bs [.slice A n c]) : n ≤ maxLen ∧ RowW w lo hi A n:=by
 obtain ⟨A1,c1,e1,h1,h2,_,hh⟩:=rdin_sl.1 h
 injection e1 with e1 _
 injection e1 with e2 e3 e4
 subst e2 e3 e4
 refine ⟨Nat.le_trans h1 h2,fun q hq=>?_⟩
 rcases hh with hh | ⟨b3,o3,e8,⟨hb3,lv3⟩,hc3⟩
 · exfalso
   have : bs.length = 0:=by rw [show bs = [] from hh];rfl
   have hq' : q < bs.length:=hq
   omega
 · obtain ⟨es,hce,hre⟩:=hc3 q hq
   have hce0:=hce 0 (by decide)
   rw [rdin_byte.1 hre] at hce0
   have e9 : o3 + q * Ty.size .byte + 0 = o3 + q:=by show o3 + q * 1 + 0 = _;omega
   rw [e9] at hce0
   exact ⟨b3,o3,_,e8,hb3,lv3,hce0⟩
theorem rows_w {ds : List (List UInt8)} {A : Option Addr} {n c : Nat} (h : RdIn w (InL w lo hi) (.sl (.sl .byte)) ds [.slice A n c]) : n ≤ maxLen ∧ RowsW w lo hi A n:=by
 obtain ⟨A1,c1,e1,h1,_,hh⟩:=view2 h
 injection e1 with e2 e3 e4
 subst e2 e4
 refine ⟨by omega,fun k hk=>?_⟩
 obtain ⟨b2,o2,e5,_,hrow⟩:=hh (by omega)
 obtain ⟨A6,c6,q6,r6⟩:=hrow k (by omega)
 obtain ⟨h7,h8⟩:=row_w r6
 exact ⟨b2,o2,A6,_,c6,e5,q6,h7,h8⟩
theorem flw_at {B : Option Addr} {N d j : Nat} (h : ShpL w lo hi (.sl FlTy) [.slice B N d]) (hj : j < N) : ∃ b off Ab nb cb As ns cs Ax nx cx,B = some ⟨b,off,none⟩ ∧ w.cell? ⟨b,off + j * 8 + 4,none⟩ = some (.slice Ab nb cb) ∧ w.cell? ⟨b,off + j * 8 + 5,none⟩ = some (.slice As ns cs) ∧ w.cell? ⟨b,off + j * 8 + 7,none⟩ = some (.slice Ax nx cx) ∧ (nb ≤ maxLen ∧ RowW w lo hi Ab nb) ∧ (ns ≤ maxLen ∧ RowW w lo hi As ns) ∧ (nx ≤ maxLen ∧ RowsW w lo hi Ax nx):=by
 obtain ⟨fs,hr⟩:=(show ∃ fs : List FlTy.T,RdIn w (InL w lo hi) (.sl FlTy) fs [.slice B N d] from h)
 have hN : N = fs.length:=by
  obtain ⟨_,_,e,_⟩:=viewF hr
  injection e
 obtain ⟨b,off,Ab,cb,As,cs,Aq,cq,Ax,cx,e,q0,q1,q2,q3,q4,q5,q6,q7,hi,r1,r2,r3,r4⟩:=fl_at hr (j:=j) (by omega)
 exact ⟨b,off,Ab,_,cb,As,_,cs,Ax,_,cx,e,q4,q5,q7,row_w r1,row_w r2,rows_w r4⟩
theorem flw_max {B : Option Addr} {N d : Nat} (h : ShpL w lo hi (.sl FlTy) [.slice B N d]) : N ≤ maxLen:=by
 obtain ⟨fs,hr⟩:=(show ∃ fs : List FlTy.T,RdIn w (InL w lo hi) (.sl FlTy) fs [.slice B N d] from h)
 obtain ⟨_,_,e,hm,_⟩:=viewF hr
 injection e with _ e _
 omega
theorem flw_st {b off N d j ns cs q : Nat} {As : Option Addr} (h : ShpL w lo hi (.sl FlTy) [.slice (some ⟨b,off,none⟩) N d]) (hj : j < N) (hc : w.cell? ⟨b,off + j * 8 + 5,none⟩ = some (.slice As ns cs)) (hq : q < ns) : ∃ b3 o3 x,As = some ⟨b3,o3,none⟩ ∧ (lo ≤ b3 ∧ b3 < hi) ∧ Live w b3 ∧ w.cell? ⟨b3,o3 + q,none⟩ = some (.int .u8 x):=by
 obtain ⟨b',off',_,_,_,As',ns',cs',_,_,_,e,_,h5,_,_,h6,_⟩:=flw_at h hj
 injection e with e
 injection e with e1 e2
 subst e1 e2
 rw [hc] at h5
 injection h5 with h5
 injection h5 with h51 h52 h53
 subst h51 h52 h53
 exact h6.2 q hq
theorem flw_ask {b off N d j ns cs q : Nat} {As : Option Addr} (h : ShpL w lo hi (.sl FlTy) [.slice (some ⟨b,off,none⟩) N d]) (hj : j < N) (hc : w.cell? ⟨b,off + j * 8 + 4,none⟩ = some (.slice As ns cs)) (hq : q < ns) : ∃ b3 o3 x,As = some ⟨b3,o3,none⟩ ∧ (lo ≤ b3 ∧ b3 < hi) ∧ Live w b3 ∧ w.cell? ⟨b3,o3 + q,none⟩ = some (.int .u8 x):=by
 obtain ⟨b',off',As',ns',cs',_,_,_,_,_,_,e,h5,_,_,h6,_⟩:=flw_at h hj
 injection e with e
 injection e with e1 e2
 subst e1 e2
 rw [hc] at h5
 injection h5 with h5
 injection h5 with h51 h52 h53
 subst h51 h52 h53
 exact h6.2 q hq
theorem flw_dat {b off N d j nx cx k : Nat} {Ax : Option Addr} (h : ShpL w lo hi (.sl FlTy) [.slice (some ⟨b,off,none⟩) N d]) (hj : j < N) (hc : w.cell? ⟨b,off + j * 8 + 7,none⟩ = some (.slice Ax nx cx)) (hk : k < nx) : ∃ b2 o2 A6 n6 c6,Ax = some ⟨b2,o2,none⟩ ∧ w.cell? ⟨b2,o2 + k,none⟩ = some (.slice A6 n6 c6) ∧ n6 ≤ maxLen ∧ RowW w lo hi A6 n6:=by
 obtain ⟨b',off',_,_,_,_,_,_,Ax',nx',cx',e,_,_,h5,_,_,h6⟩:=flw_at h hj
 injection e with e
 injection e with e1 e2
 subst e1 e2
 rw [hc] at h5
 injection h5 with h5
 injection h5 with h51 h52 h53
 subst h51 h52 h53
 exact h6.2 k hk
theorem flw_byte {b off N d j nx cx k b2 o2 n6 c6 q : Nat} {A6 : Option Addr} (h : ShpL w lo hi (.sl FlTy) [.slice (some ⟨b,off,none⟩) N d]) (hj : j < N) (hc : w.cell? ⟨b,off + j * 8 + 7,none⟩ = some (.slice (some ⟨b2,o2,none⟩) nx cx)) (hk : k < nx) (hd : w.cell? ⟨b2,o2 + k,none⟩ = some (.slice A6 n6 c6)) (hq : q < n6) : ∃ b3 o3 x,A6 = some ⟨b3,o3,none⟩ ∧ (lo ≤ b3 ∧ b3 < hi) ∧ Live w b3 ∧ w.cell? ⟨b3,o3 + q,none⟩ = some (.int .u8 x):=by
 obtain ⟨b',o',A',n',c',e,h5,_,h6⟩:=flw_dat h hj hc hk
 injection e with e
 injection e with e1 e2
 subst e1 e2
 rw [hd] at h5
 injection h5 with h5
 injection h5 with h51 h52 h53
 subst h51 h52 h53
 exact h6 q hq
end
set_option maxRecDepth 100000 in
set_option maxHeartbeats 4000000 in
theorem turn24_any (lo hi : Nat) (B : Option Addr) (N d : Nat) (w : World) (h : ShpL w lo hi (.sl FlTy) [.slice B N d]) :
 Calls Try.prog 22 #[.slice B N d] w fun e w'=>(∃ v,e = .returned v) ∧ Within lo hi w w':=by
 have HNM : Hid (N ≤ maxLen):=flw_max h
 go_enter Try.func22,Try.ntmps22
 go_wp2
 have t0:=Within.refl lo hi w
 go_loopw [2] (fun i wr=>∃ j : Nat,j ≤ N ∧ i = .int .i64 (j : Int) ∧ Within lo hi w wr ∧ Hid (ShpL wr lo hi (.sl FlTy) [.slice B N d])) (fun i _=>N - (intOf i).toNat)
 case atStart=>exact ⟨0,Nat.zero_le _,rfl,t0,h⟩
 case round=>
  obtain ⟨j,hj,rfl,t1,HS⟩:=hrel
  clear t0 h
  by_cases hlt : j < N
  · obtain ⟨b,off,Ab,nb,cb,As,ns,cs,Ax,nx,cx,rfl,q4,q5,q7,k4,k5,k7⟩:=flw_at HS.out hlt
    have HLJ:=Lib.hid hlt
    have HWJ:=next_wrap HNM.out hlt
    have HM5:=Lib.hid k5.1
    clear k4 k5 k7 q4 q7
    have HQ5:=Lib.hid q5
    go_wp2
    clear q5
    go_loopw [3] (fun i wr=>∃ q : Nat,q ≤ ns ∧ i = .int .i64 (q : Int) ∧ Within lo hi w wr ∧ Hid (ShpL wr lo hi (.sl FlTy) [.slice (some ⟨b,off,none⟩) N d]) ∧ Hid (wr.cell? ⟨b,off + j * 8 + 5,none⟩ = some (.slice As ns cs))) (fun i _=>ns - (intOf i).toNat)
    case atStart=>exact ⟨0,Nat.zero_le _,rfl,t1,HS.out,HQ5.out⟩
    case round=>
     as_aux_lemma=>
     obtain ⟨q,hq,rfl,t2,HS2,HQ2⟩:=hrel
     clear t1 HS HQ5
     have q5:=HQ2.out
     by_cases hlq : q < ns
     · obtain ⟨b3,o3,x,rfl,hb3,lv3,hx⟩:=flw_st HS2.out HLJ.out HQ2.out hlq
       have fz:=lv3.free (o3 + q)
       have HLQ:=Lib.hid hlq
       have HWQ:=next_wrap HM5.out hlq
       have hk8 : InK .u8 9:=by show (0 : Int) ≤ _ ∧ _ < (256 : Int);omega
       have HS3:=Lib.hid (HS2.out.num hx hk8)
       have HQ3:=Lib.hid (keep_slice (n':=9) hx HQ2.out)
       have t3:=Within.setCell (p:=⟨b3,o3 + q,none⟩) t2 hb3 (.int .u8 9)
       clear hk8 hb3 lv3
       go_wp2
       go_roundw
       case rel=>exact ⟨q + 1,HLQ.out,by first | rfl | exact round_same HWQ | go_num,t3,HS3.out,HQ3.out⟩
       case measure=>first | exact round_less HWQ HLQ.out | (have h:=HLQ.out;simp [intOf];omega)
     · obtain ⟨b',off',Ab,nb,cb,As',ns',cs',Ax,nx,cx,e,q4,_,q7,k4,k5,k7⟩:=flw_at HS2.out HLJ.out
       injection e with e
       injection e with e1 e2
       subst e1 e2
       have HM7:=Lib.hid k7.1
       have HQ7:=Lib.hid q7
       clear k4 k5 k7 q4
       go_wp2
       clear q5 q7
       go_loopw [4] (fun i wr=>∃ q : Nat,q ≤ nx ∧ i = .int .i64 (q : Int) ∧ Within lo hi w wr ∧ Hid (ShpL wr lo hi (.sl FlTy) [.slice (some ⟨b,off,none⟩) N d]) ∧ Hid (wr.cell? ⟨b,off + j * 8 + 7,none⟩ = some (.slice Ax nx cx))) (fun i _=>nx - (intOf i).toNat)
       case atStart=>exact ⟨0,Nat.zero_le _,rfl,t2,HS2.out,HQ7.out⟩
       case round=>
        as_aux_lemma=>
        obtain ⟨k,hk,rfl,t4,HS4,HQ4⟩:=hrel
        clear t2 HS2 HQ2 HQ7
        have q7:=HQ4.out
        by_cases hlk : k < nx
        · obtain ⟨b2,o2,A6,n6,c6,rfl,qd,hn6,_⟩:=flw_dat HS4.out HLJ.out HQ4.out hlk
          have HLK:=Lib.hid hlk
          have HWK:=next_wrap HM7.out hlk
          have HM6:=Lib.hid hn6
          have HQD:=Lib.hid qd
          clear hn6
          go_wp2
          clear q7 qd
          go_loopw [5] (fun i wr=>∃ q : Nat,q ≤ n6 ∧ i = .int .i64 (q : Int) ∧ Within lo hi w wr ∧ Hid (ShpL wr lo hi (.sl FlTy) [.slice (some ⟨b,off,none⟩) N d]) ∧ Hid (wr.cell? ⟨b,off + j * 8 + 7,none⟩ = some (.slice (some ⟨b2,o2,none⟩) nx cx)) ∧ Hid (wr.cell? ⟨b2,o2 + k,none⟩ = some (.slice A6 n6 c6))) (fun i _=>n6 - (intOf i).toNat)
          case atStart=>exact ⟨0,Nat.zero_le _,rfl,t4,HS4.out,HQ4.out,HQD.out⟩
          case round=>
             as_aux_lemma=>
             obtain ⟨q,hq,rfl,t5,HS5,HQ5,HD5⟩:=hrel
             clear t4 HS4 HQ4 HQD
             have q7:=HQ5.out
             have qd:=HD5.out
             by_cases hlq : q < n6
             · obtain ⟨b3,o3,x,rfl,hb3,lv3,hx⟩:=flw_byte HS5.out HLJ.out HQ5.out HLK.out HD5.out hlq
               have HLQ:=Lib.hid hlq
               have HWQ:=next_wrap HM6.out hlq
               have HB3:=Lib.hid hb3
               clear hb3
               go_upto_region 13 with fail
               have bd:=Ext.drew (Below.refl wr.heap.size wr)
               have HS6:=Lib.hid (HS5.out.below bd)
               have HQ6:=Lib.hid ((bd.cell (p:=⟨b,off + j * 8 + 7,none⟩) (cell_lt q7)).trans q7)
               have HD6:=Lib.hid ((bd.cell (p:=⟨b2,o2 + k,none⟩) (cell_lt qd)).trans qd)
               have HX6:=Lib.hid ((bd.cell (p:=⟨b3,o3 + q,none⟩) (cell_lt hx)).trans hx)
               have L6:=lv3.below bd
               have t6:=t5.drew
               refine wp_region_held_drew (S:=fun w'=>w'.cell? ⟨b,off + j * 8 + 7,none⟩ = some (.slice (some ⟨b2,o2,none⟩) nx cx) ∧ w'.cell? ⟨b2,o2 + k,none⟩ = some (.slice (some ⟨b3,o3,none⟩) n6 c6)) (by kernel_rfl) ⟨HQ6.out,HD6.out⟩ (fun hS=>?_)
               generalize wr.drew = wd at *
               clear bd t5 HS5 HQ5 HD5 q7 qd hx lv3
               have hk8:=wrap_u8 (x + 1)
               have HS7:=Lib.hid (HS6.out.num HX6.out hk8)
               have HQ7:=Lib.hid (keep_slice (n':=IntKind.u8.wrap (x + 1)) HX6.out HQ6.out)
               have HD7:=Lib.hid (keep_slice (n':=IntKind.u8.wrap (x + 1)) HX6.out HD6.out)
               have t7:=Within.setCell (p:=⟨b3,o3 + q,none⟩) t6 HB3.out (.int .u8 (IntKind.u8.wrap (x + 1)))
               clear hk8
               refine wpAnyH_take (i:=0) (v:=?_) rfl (by kernel_rfl) (by kernel_rfl) (by kernel_rfl) (fun _ _ _ h=>h) (Or.inl ⟨by rfl,?_⟩) hS ?_
               rotate_left
               · (intro w hSw;(try dsimp only at hSw);go_simp;(try with_reducible rfl))
               rotate_left
               simp only [Act.put,zq0,zq1,zq2,zq3,zq4,zq5]
               refine wpAnyH_take (i:=1) (v:=?_) rfl (by kernel_rfl) (by kernel_rfl) (by kernel_rfl) (fun _ _ _ h=>h) (Or.inl ⟨by rfl,?_⟩) hS ?_
               rotate_left
               · (intro w hSw;(try dsimp only at hSw);go_simp;(try with_reducible rfl))
               rotate_left
               simp only [Act.put,zq0,zq1,zq2,zq3,zq4,zq5]
               refine wpAnyH_take (i:=2) (v:=?_) rfl (by kernel_rfl) (by kernel_rfl) (by kernel_rfl) (fun _ _ _ h=>h) (Or.inl ⟨by rfl,?_⟩) hS ?_
               rotate_left
               · (intro w hSw;(try dsimp only at hSw);go_simp;(try with_reducible rfl))
               rotate_left
               simp only [Act.put,zq0,zq1,zq2,zq3,zq4,zq5]
               refine wpAnyH_take (i:=3) (v:=?_) rfl (by kernel_rfl) (by kernel_rfl) (by kernel_rfl) (fun _ _ _ h=>h) (Or.inl ⟨by rfl,?_⟩) hS ?_
               rotate_left
               · (intro w hSw;(try dsimp only at hSw);go_simp;(try with_reducible rfl))
               rotate_left
               simp only [Act.put,zq0,zq1,zq2,zq3,zq4,zq5]
               refine wpAnyH_take (i:=4) (v:=?_) rfl (by kernel_rfl) (by kernel_rfl) (by kernel_rfl) (fun _ _ _ h=>h) (Or.inl ⟨by rfl,?_⟩) hS ?_
               rotate_left
               · (intro w hSw;(try dsimp only at hSw);go_simp;(try with_reducible rfl))
               rotate_left
               simp only [Act.put,zq0,zq1,zq2,zq3,zq4,zq5]
               refine wpAnyH_take (i:=5) (v:=?_) rfl (by kernel_rfl) (by kernel_rfl) (by kernel_rfl) (fun _ _ _ h=>h) (Or.inl ⟨by rfl,?_⟩) hS ?_
               rotate_left
               · (intro w hSw;(try dsimp only at hSw);go_simp;(try with_reducible rfl))
               rotate_left
               simp only [Act.put,zq0,zq1,zq2,zq3,zq4,zq5]
               refine wpAnyH_take (i:=6) (v:=?_) rfl (by kernel_rfl) (by kernel_rfl) (by kernel_rfl) (fun _ _ _ h=>h) (Or.inl ⟨by rfl,?_⟩) hS ?_
               rotate_left
               · (intro w hSw;(try dsimp only at hSw);go_simp;(try with_reducible rfl))
               rotate_left
               simp only [Act.put,zq0,zq1,zq2,zq3,zq4,zq5]
               refine wpAnyH_take (i:=7) (v:=?_) rfl (by kernel_rfl) (by kernel_rfl) (by kernel_rfl) (fun _ _ _ h=>h) (Or.inl ⟨by rfl,?_⟩) hS ?_
               rotate_left
               · (intro w hSw;(try dsimp only at hSw);go_simp;(try with_reducible rfl))
               rotate_left
               simp only [Act.put,zq0,zq1,zq2,zq3,zq4,zq5]
               refine wpAnyH_take (i:=8) (v:=?_) rfl (by kernel_rfl) (by kernel_rfl) (by kernel_rfl) (fun _ _ _ h=>h) (Or.inl ⟨by rfl,?_⟩) hS ?_
               rotate_left
               · (intro w hSw;(try dsimp only at hSw);go_simp;(try with_reducible rfl))
               rotate_left
               simp only [Act.put,zq0,zq1,zq2,zq3,zq4,zq5]
               refine wpAnyH_take (i:=9) (v:=?_) rfl (by kernel_rfl) (by kernel_rfl) (by kernel_rfl) (fun _ _ _ h=>h) (Or.inl ⟨by rfl,?_⟩) hS ?_
               rotate_left
               · (intro w hSw;(try dsimp only at hSw);go_simp;(try with_reducible rfl))
               rotate_left
               simp only [Act.put,zq0,zq1,zq2,zq3,zq4,zq5]
               refine wpAnyH_take (i:=10) (v:=?_) rfl (by kernel_rfl) (by kernel_rfl) (by kernel_rfl) (fun _ _ _ h=>h) (Or.inl ⟨by rfl,?_⟩) hS ?_
               rotate_left
               · (intro w hSw;(try dsimp only at hSw);go_simp;(try with_reducible rfl))
               rotate_left
               simp only [Act.put,zq0,zq1,zq2,zq3,zq4,zq5]
               refine wpAnyH_take (i:=11) (v:=?_) rfl (by kernel_rfl) (by kernel_rfl) (by kernel_rfl) (fun _ _ _ h=>h) (Or.inl ⟨by rfl,?_⟩) hS ?_
               rotate_left
               · (intro w hSw;(try dsimp only at hSw);go_simp;(try with_reducible rfl))
               rotate_left
               simp only [Act.put,zq0,zq1,zq2,zq3,zq4,zq5]
               refine wpAnyH_take (i:=12) (v:=?_) rfl (by kernel_rfl) (by kernel_rfl) (by kernel_rfl) (fun _ _ _ h=>h) (Or.inl ⟨by rfl,?_⟩) hS ?_
               rotate_left
               · (intro w hSw;(try dsimp only at hSw);go_simp;(try with_reducible rfl))
               rotate_left
               simp only [Act.put,zq0,zq1,zq2,zq3,zq4,zq5]
               refine wpAnyH_take (i:=13) (v:=?_) rfl (by kernel_rfl) (by kernel_rfl) (by kernel_rfl) (fun _ _ _ h=>h) (Or.inl ⟨by rfl,?_⟩) hS ?_
               rotate_left
               · (intro w hSw;(try dsimp only at hSw);go_simp;(try with_reducible rfl))
               rotate_left
               simp only [Act.put,zq0,zq1,zq2,zq3,zq4,zq5]
               refine wpAnyH_take (i:=14) (v:=?_) rfl (by kernel_rfl) (by kernel_rfl) (by kernel_rfl) (fun _ _ _ h=>h) (Or.inl ⟨by rfl,?_⟩) hS ?_
               rotate_left
               · (intro w hSw;(try dsimp only at hSw);go_simp;(try with_reducible rfl))
               rotate_left
               simp only [Act.put,zq0,zq1,zq2,zq3,zq4,zq5]
               refine wpAnyH_take (i:=15) (v:=?_) rfl (by kernel_rfl) (by kernel_rfl) (by kernel_rfl) (fun _ _ _ h=>h) (Or.inl ⟨by rfl,?_⟩) hS ?_
               rotate_left
               · (intro w hSw;(try dsimp only at hSw);go_simp;(try with_reducible rfl))
               rotate_left
               simp only [Act.put,zq0,zq1,zq2,zq3,zq4,zq5]
               refine wpAnyH_take (i:=16) (v:=?_) rfl (by kernel_rfl) (by kernel_rfl) (by kernel_rfl) (fun _ _ _ h=>h) (Or.inl ⟨by rfl,?_⟩) hS ?_
               rotate_left
               · (intro w hSw;(try dsimp only at hSw);go_simp;(try with_reducible rfl))
               rotate_left
               simp only [Act.put,zq0,zq1,zq2,zq3,zq4,zq5]
               refine wpAnyH_take (i:=17) (v:=?_) rfl (by kernel_rfl) (by kernel_rfl) (by kernel_rfl) (fun _ _ _ h=>h) (Or.inl ⟨by rfl,?_⟩) hS ?_
               rotate_left
               · (intro w hSw;(try dsimp only at hSw);go_simp;(try with_reducible rfl))
               rotate_left
               simp only [Act.put,zq0,zq1,zq2,zq3,zq4,zq5]
               refine wpAnyH_take (i:=18) (v:=?_) rfl (by kernel_rfl) (by kernel_rfl) (by kernel_rfl) (fun _ _ _ h=>h) (Or.inl ⟨by rfl,?_⟩) hS ?_
               rotate_left
               · (intro w hSw;(try dsimp only at hSw);go_simp;(try with_reducible rfl))
               rotate_left
               simp only [Act.put,zq0,zq1,zq2,zq3,zq4,zq5]
               refine wpAnyH_ready (rs:=[19]) (by kernel_rfl) (by simp) ?_
               refine AllReadyH.cons rfl (fun K hK=>?_) AllReadyH.nil
               rw [if_pos (by rfl)]
               have hx6:=HX6.out
               go_simp
               refine hK.out _ _ hS (fun hS'=>?_)
               clear hK K hS hx6
               have hS:=hS'
               clear hS'
               try simp only [Act.put,zq0,zq1,zq2,zq3,zq4,zq5]
               refine wpAnyH_take (i:=20) (v:=?_) rfl (by kernel_rfl) (by kernel_rfl) (by kernel_rfl) (fun _ _ _ h=>h) (Or.inl ⟨by rfl,?_⟩) hS ?_
               rotate_left
               · (intro w hSw;(try dsimp only at hSw);go_simp;(try with_reducible rfl))
               rotate_left
               simp only [Act.put,zq0,zq1,zq2,zq3,zq4,zq5]
               refine wpAnyH_take (i:=21) (v:=?_) rfl (by kernel_rfl) (by kernel_rfl) (by kernel_rfl) (fun _ _ _ h=>h) (Or.inl ⟨by rfl,?_⟩) hS ?_
               rotate_left
               · (intro w hSw;(try dsimp only at hSw);go_simp;(try with_reducible rfl))
               rotate_left
               simp only [Act.put,zq0,zq1,zq2,zq3,zq4,zq5]
               refine wpAnyH_ready (rs:=[22]) (by kernel_rfl) (by simp) ?_
               refine AllReadyH.cons rfl (fun K hK=>?_) AllReadyH.nil
               rw [if_pos (by rfl)]
               have hx6:=HX6.out
               have fz:=L6.free (o3 + q)
               go_simp
               refine hK.out _ _ ⟨HQ7.out,HD7.out⟩ (fun hS'=>?_)
               clear hK K hS hx6 fz hS'
               try simp only [Act.put,zq0,zq1,zq2,zq3,zq4,zq5]
               refine wpAnyH_done (by kernel_rfl) ?_ _
               go_wp2
               go_roundw
               case rel=>exact ⟨q + 1,HLQ.out,by first | rfl | exact round_same HWQ | go_num,t7,HS7.out,HQ7.out,HD7.out⟩
               case measure=>first | exact round_less HWQ HLQ.out | (have h:=HLQ.out;simp [intOf];omega)
             · clear hq
               go_wp2
               go_roundw
               case rel=>exact ⟨k + 1,HLK.out,by first | rfl | exact round_same HWK | go_num,t5,HS5.out,HQ5.out⟩
               case measure=>first | exact round_less HWK HLK.out | (have h:=HLK.out;simp [intOf];omega)
        · obtain ⟨b',off',Ab,nb,cb,_,_,_,Ax',nx',cx',e,q4,_,_,k4,_,_⟩:=flw_at HS4.out HLJ.out
          injection e with e
          injection e with e1 e2
          subst e1 e2
          have HM4:=Lib.hid k4.1
          have HQB:=Lib.hid q4
          clear k4 hk
          go_wp2
          clear q4 q7
          go_loopw [6] (fun i wr=>∃ q : Nat,q ≤ nb ∧ i = .int .i64 (q : Int) ∧ Within lo hi w wr ∧ Hid (ShpL wr lo hi (.sl FlTy) [.slice (some ⟨b,off,none⟩) N d]) ∧ Hid (wr.cell? ⟨b,off + j * 8 + 4,none⟩ = some (.slice Ab nb cb))) (fun i _=>nb - (intOf i).toNat)
          case atStart=>exact ⟨0,Nat.zero_le _,rfl,t4,HS4.out,HQB.out⟩
          case round=>
             as_aux_lemma=>
             obtain ⟨q,hq,rfl,t5,HS5,HQ5⟩:=hrel
             clear t4 HS4 HQ4 HQB
             have q4:=HQ5.out
             by_cases hlq : q < nb
             · obtain ⟨b3,o3,x,rfl,hb3,lv3,hx⟩:=flw_ask HS5.out HLJ.out HQ5.out hlq
               have HLQ:=Lib.hid hlq
               have HWQ:=next_wrap HM4.out hlq
               have HB3:=Lib.hid hb3
               clear hb3
               go_upto_region 17 with fail
               have bd:=Ext.drew (Below.refl wr.heap.size wr)
               have HS6:=Lib.hid (HS5.out.below bd)
               have HQ6:=Lib.hid ((bd.cell (p:=⟨b,off + j * 8 + 4,none⟩) (cell_lt q4)).trans q4)
               have HX6:=Lib.hid ((bd.cell (p:=⟨b3,o3 + q,none⟩) (cell_lt hx)).trans hx)
               have L6:=lv3.below bd
               have t6:=t5.drew
               refine wp_region_held_drew (S:=fun w'=>w'.cell? ⟨b,off + j * 8 + 1 + 3,none⟩ = some (.slice (some ⟨b3,o3,none⟩) nb cb)) (by kernel_rfl) HQ6.out (fun hS=>?_)
               generalize wr.drew = wd at *
               clear bd t5 HS5 HQ5 q4 hx lv3
               have hk8:=wrap_u8 (x + 1)
               have HS7:=Lib.hid (HS6.out.num HX6.out hk8)
               have HQ7:=Lib.hid (keep_slice (n':=IntKind.u8.wrap (x + 1)) HX6.out HQ6.out)
               have t7:=Within.setCell (p:=⟨b3,o3 + q,none⟩) t6 HB3.out (.int .u8 (IntKind.u8.wrap (x + 1)))
               clear hk8
               refine wpAnyH_take (i:=0) (v:=?_) rfl (by kernel_rfl) (by kernel_rfl) (by kernel_rfl) (fun _ _ _ h=>h) (Or.inl ⟨by rfl,?_⟩) hS ?_
               rotate_left
               · (intro w hSw;(try dsimp only at hSw);go_simp;(try with_reducible rfl))
               rotate_left
               simp only [Act.put,zq0,zq1,zq2,zq3,zq4,zq5]
               refine wpAnyH_take (i:=1) (v:=?_) rfl (by kernel_rfl) (by kernel_rfl) (by kernel_rfl) (fun _ _ _ h=>h) (Or.inl ⟨by rfl,?_⟩) hS ?_
               rotate_left
               · (intro w hSw;(try dsimp only at hSw);go_simp;(try with_reducible rfl))
               rotate_left
               simp only [Act.put,zq0,zq1,zq2,zq3,zq4,zq5]
               refine wpAnyH_take (i:=2) (v:=?_) rfl (by kernel_rfl) (by kernel_rfl) (by kernel_rfl) (fun _ _ _ h=>h) (Or.inl ⟨by rfl,?_⟩) hS ?_
               rotate_left
               · (intro w hSw;(try dsimp only at hSw);go_simp;(try with_reducible rfl))
               rotate_left
               simp only [Act.put,zq0,zq1,zq2,zq3,zq4,zq5]
               refine wpAnyH_take (i:=3) (v:=?_) rfl (by kernel_rfl) (by kernel_rfl) (by kernel_rfl) (fun _ _ _ h=>h) (Or.inl ⟨by rfl,?_⟩) hS ?_
               rotate_left
               · (intro w hSw;(try dsimp only at hSw);go_simp;(try with_reducible rfl))
               rotate_left
               simp only [Act.put,zq0,zq1,zq2,zq3,zq4,zq5]
               refine wpAnyH_take (i:=4) (v:=?_) rfl (by kernel_rfl) (by kernel_rfl) (by kernel_rfl) (fun _ _ _ h=>h) (Or.inl ⟨by rfl,?_⟩) hS ?_
               rotate_left
               · (intro w hSw;(try dsimp only at hSw);go_simp;(try with_reducible rfl))
               rotate_left
               simp only [Act.put,zq0,zq1,zq2,zq3,zq4,zq5]
               refine wpAnyH_take (i:=5) (v:=?_) rfl (by kernel_rfl) (by kernel_rfl) (by kernel_rfl) (fun _ _ _ h=>h) (Or.inl ⟨by rfl,?_⟩) hS ?_
               rotate_left
               · (intro w hSw;(try dsimp only at hSw);go_simp;(try with_reducible rfl))
               rotate_left
               simp only [Act.put,zq0,zq1,zq2,zq3,zq4,zq5]
               refine wpAnyH_take (i:=6) (v:=?_) rfl (by kernel_rfl) (by kernel_rfl) (by kernel_rfl) (fun _ _ _ h=>h) (Or.inl ⟨by rfl,?_⟩) hS ?_
               rotate_left
               · (intro w hSw;(try dsimp only at hSw);go_simp;(try with_reducible rfl))
               rotate_left
               simp only [Act.put,zq0,zq1,zq2,zq3,zq4,zq5]
               refine wpAnyH_take (i:=7) (v:=?_) rfl (by kernel_rfl) (by kernel_rfl) (by kernel_rfl) (fun _ _ _ h=>h) (Or.inl ⟨by rfl,?_⟩) hS ?_
               rotate_left
               · (intro w hSw;(try dsimp only at hSw);go_simp;(try with_reducible rfl))
               rotate_left
               simp only [Act.put,zq0,zq1,zq2,zq3,zq4,zq5]
               refine wpAnyH_take (i:=8) (v:=?_) rfl (by kernel_rfl) (by kernel_rfl) (by kernel_rfl) (fun _ _ _ h=>h) (Or.inl ⟨by rfl,?_⟩) hS ?_
               rotate_left
               · (intro w hSw;(try dsimp only at hSw);go_simp;(try with_reducible rfl))
               rotate_left
               simp only [Act.put,zq0,zq1,zq2,zq3,zq4,zq5]
               refine wpAnyH_take (i:=9) (v:=?_) rfl (by kernel_rfl) (by kernel_rfl) (by kernel_rfl) (fun _ _ _ h=>h) (Or.inl ⟨by rfl,?_⟩) hS ?_
               rotate_left
               · (intro w hSw;(try dsimp only at hSw);go_simp;(try with_reducible rfl))
               rotate_left
               simp only [Act.put,zq0,zq1,zq2,zq3,zq4,zq5]
               refine wpAnyH_take (i:=10) (v:=?_) rfl (by kernel_rfl) (by kernel_rfl) (by kernel_rfl) (fun _ _ _ h=>h) (Or.inl ⟨by rfl,?_⟩) hS ?_
               rotate_left
               · (intro w hSw;(try dsimp only at hSw);go_simp;(try with_reducible rfl))
               rotate_left
               simp only [Act.put,zq0,zq1,zq2,zq3,zq4,zq5]
               refine wpAnyH_take (i:=11) (v:=?_) rfl (by kernel_rfl) (by kernel_rfl) (by kernel_rfl) (fun _ _ _ h=>h) (Or.inl ⟨by rfl,?_⟩) hS ?_
               rotate_left
               · (intro w hSw;(try dsimp only at hSw);go_simp;(try with_reducible rfl))
               rotate_left
               simp only [Act.put,zq0,zq1,zq2,zq3,zq4,zq5]
               refine wpAnyH_take (i:=12) (v:=?_) rfl (by kernel_rfl) (by kernel_rfl) (by kernel_rfl) (fun _ _ _ h=>h) (Or.inl ⟨by rfl,?_⟩) hS ?_
               rotate_left
               · (intro w hSw;(try dsimp only at hSw);go_simp;(try with_reducible rfl))
               rotate_left
               simp only [Act.put,zq0,zq1,zq2,zq3,zq4,zq5]
               refine wpAnyH_take (i:=13) (v:=?_) rfl (by kernel_rfl) (by kernel_rfl) (by kernel_rfl) (fun _ _ _ h=>h) (Or.inl ⟨by rfl,?_⟩) hS ?_
               rotate_left
               · (intro w hSw;(try dsimp only at hSw);go_simp;(try with_reducible rfl))
               rotate_left
               simp only [Act.put,zq0,zq1,zq2,zq3,zq4,zq5]
               refine wpAnyH_take (i:=14) (v:=?_) rfl (by kernel_rfl) (by kernel_rfl) (by kernel_rfl) (fun _ _ _ h=>h) (Or.inl ⟨by rfl,?_⟩) hS ?_
               rotate_left
               · (intro w hSw;(try dsimp only at hSw);go_simp;(try with_reducible rfl))
               rotate_left
               simp only [Act.put,zq0,zq1,zq2,zq3,zq4,zq5]
               refine wpAnyH_ready (rs:=[15]) (by kernel_rfl) (by simp) ?_
               refine AllReadyH.cons rfl (fun K hK=>?_) AllReadyH.nil
               rw [if_pos (by rfl)]
               have hx6:=HX6.out
               go_simp
               refine hK.out _ _ hS (fun hS'=>?_)
               clear hK K hS hx6
               have hS:=hS'
               clear hS'
               try simp only [Act.put,zq0,zq1,zq2,zq3,zq4,zq5]
               refine wpAnyH_take (i:=16) (v:=?_) rfl (by kernel_rfl) (by kernel_rfl) (by kernel_rfl) (fun _ _ _ h=>h) (Or.inl ⟨by rfl,?_⟩) hS ?_
               rotate_left
               · (intro w hSw;(try dsimp only at hSw);go_simp;(try with_reducible rfl))
               rotate_left
               simp only [Act.put,zq0,zq1,zq2,zq3,zq4,zq5]
               refine wpAnyH_take (i:=17) (v:=?_) rfl (by kernel_rfl) (by kernel_rfl) (by kernel_rfl) (fun _ _ _ h=>h) (Or.inl ⟨by rfl,?_⟩) hS ?_
               rotate_left
               · (intro w hSw;(try dsimp only at hSw);go_simp;(try with_reducible rfl))
               rotate_left
               simp only [Act.put,zq0,zq1,zq2,zq3,zq4,zq5]
               refine wpAnyH_ready (rs:=[18]) (by kernel_rfl) (by simp) ?_
               refine AllReadyH.cons rfl (fun K hK=>?_) AllReadyH.nil
               rw [if_pos (by rfl)]
               have hx6:=HX6.out
               have fz:=L6.free (o3 + q)
               go_simp
               refine hK.out _ _ HQ7.out (fun hS'=>?_)
               clear hK K hS hx6 fz hS'
               try simp only [Act.put,zq0,zq1,zq2,zq3,zq4,zq5]
               refine wpAnyH_done (by kernel_rfl) ?_ _
               go_wp2
               go_roundw
               case rel=>exact ⟨q + 1,HLQ.out,by first | rfl | exact round_same HWQ | go_num,t7,HS7.out,HQ7.out⟩
               case measure=>first | exact round_less HWQ HLQ.out | (have h:=HLQ.out;simp [intOf];omega)
             · clear hq
               go_wp2
               go_roundw
               case rel=>exact ⟨j + 1,HLJ.out,by first | rfl | exact round_same HWJ | go_num,t5,HS5.out⟩
               case measure=>first | exact round_less HWJ HLJ.out | (have h:=HLJ.out;simp [intOf];omega)
  · have ht:=t1
    go_wp2
    first | (refine bodyPost_ret (results_none rfl _ _ _) rfl ?_) | (refine bodyPost_end (results_none rfl _ _ _) rfl ?_)
    exact ⟨⟨_,rfl⟩,ht⟩
end Go.Proofs.Ythapabjlhooglaa
namespace Go.Proofs.Ythapabjlhooglaa
open Go Go.RowKit
set_option linter.unusedSimpArgs false
set_option linter.unusedVariables false
section
variable {P : Program} {ops : Array Oper} {Q : Exit → Act → World → Prop} {md : Region.Mode} {S : World → Prop}
def lastOp (md : Region.Mode) (ops : Array Oper) (i : Nat) : Bool:=
 match ops[i]? with
 | some o=>(List.range ops.size).all fun k=>k == i || o.after.any fun e=>Region.binds md e && e.on == k
 | none=>false
def wpAnyG (P : Program) (md : Region.Mode) (ops : Array Oper) (Q : Exit → Act → World → Prop) (S : World → Prop) : Nat → Array Bool → Act → World → Prop
 | 0,l,a,w=>Region.ready md ops l = [] ∧ Q .normal a w
 | n + 1,l,a,w=>(Region.ready md ops l = [] → Q .normal a w) ∧
    ∀ i,i ∈ Region.ready md ops l → wpOp P ops Q i (fun b v=>(lastOp md ops i = false → S v) ∧ wpAnyG P md ops Q S n (l.setIfInBounds i true) b v) a w
theorem wpAnyG.any : ∀ (n : Nat) (l : Array Bool) (a : Act) (w : World),wpAnyG P md ops Q S n l a w → wpAny P md ops Q n l a w
 | 0,_,_,_,h=>h
 | n + 1,_,_,_,⟨h1,h2⟩=>⟨h1,fun i hi=>wpOp_mono (fun b v hb=>wpAnyG.any n _ b v hb.2) (h2 i hi)⟩
theorem wpAnyG.first {i : Nat} {o : Oper} {v : Value} (ho : ops[i]? = some o) (hs : ∀ (j : Nat) (o : Oper) cs b,ops[j]? = some o → o.op ≠ .select cs b)
 (hq : ∀ c a w,Q (.panic c) (a.put o.dst v) w → Q (.panic c) a w) (n : Nat) :
 ∀ (l : Array Bool) (a : Act) (w : World),(∀ j oj,ops[j]? = some oj → j ≠ i → l.getD j true = false → (∀ e ∈ oj.after,Region.binds md e = true → e.on ≠ i) → o.apart ops oj = true) →
  i ∈ Region.ready md ops l → YieldsIf P ops S o v a → S w → wpAnyG P md ops Q S n (l.setIfInBounds i true) (a.put o.dst v) w → wpAnyG P md ops Q S (n + 1) l a w:=by
 induction n with
 | zero=>
   intro l a w _ hi hy hw hG
   have only : ∀ j,j ∈ Region.ready md ops l → j = i:=fun j hj=>Classical.byContradiction fun hne=>by
    have:=ready_mono hj hne
    rw [hG.1] at this
    cases this
   refine ⟨fun h0=>absurd hi (by rw [h0];exact List.not_mem_nil),fun j hj=>?_⟩
   rw [only j hj]
   exact hy.wpOp ho hw ⟨fun _=>hw,hG⟩
 | succ n ih=>
   intro l a w hfree hi hy hw hG
   refine ⟨fun h0=>absurd hi (by rw [h0];exact List.not_mem_nil),fun j hj=>?_⟩
   rcases Decidable.em (j = i) with rfl | hne
   · exact hy.wpOp ho hw ⟨fun _=>hw,hG⟩
   obtain ⟨hun,oj,hoj,haft⟩:=mem_ready.1 hj
   have hiu : l.getD i true = false:=(mem_ready.1 hi).1
   have hnot : ∀ e ∈ oj.after,Region.binds md e = true → e.on ≠ i:=fun e he hb h=>by
    have h2:=haft e he hb
    rw [h] at h2
    have e1 : l.getD i true = (l[i]?).getD true:=by simp
    have e2 : l.getD i false = (l[i]?).getD false:=by simp
    rw [e1] at hiu
    rw [e2] at h2
    cases hl : l[i]? with
    | none=>rw [hl] at hiu;cases hiu
    | some b=>rw [hl] at hiu h2;exact absurd (hiu.symm.trans h2) (by simp)
   have key:=wpOp_putIf hoj (hfree j oj hoj hne hun hnot) (fun cs b=>hs i o cs b ho) (fun cs b=>hs j oj cs b hoj) hq hy (hG.2 j (ready_mono hj hne))
   have hir : i ∈ Region.ready md ops (l.setIfInBounds j true):=ready_mono hi (fun h=>hne h.symm)
   have hlast : lastOp md ops j = false:=by
    cases hl : lastOp md ops j
    · rfl
    · exfalso
      unfold lastOp at hl
      rw [hoj] at hl
      simp only [List.all_eq_true] at hl
      have hlt : i < ops.size:=(Array.getElem?_eq_some_iff.1 ho).1
      have h1:=hl i (List.mem_range.2 hlt)
      have hne' : (i == j) = false:=by simpa using fun h=>hne h.symm
      rw [hne',Bool.false_or,Array.any_eq_true'] at h1
      obtain ⟨e,he,h2⟩:=h1
      simp only [Bool.and_eq_true,beq_iff_eq] at h2
      exact hnot e he h2.1 h2.2
   refine wpOp_mono (fun b u hbu=>?_) key
   obtain ⟨hyb,hSu,hGb⟩:=hbu
   rw [Array.setIfInBounds_comm _ _ (fun h=>hne h.symm)] at hGb
   refine ⟨hSu,ih _ b u (fun k ok hok hki hun' hno=>hfree k ok hok hki ?_ hno) hir hyb (hSu hlast) hGb⟩
   by_cases hjk : j = k
   · rw [← hjk];exact hun
   · rw [getD_set_ne true hjk] at hun';exact hun'
theorem wpAnyG.take {i : Nat} {o : Oper} {v : Value} {n : Nat} {l : Array Bool} {a : Act} {w : World} (ho : ops[i]? = some o) (hs : Region.noSelect ops = true) (hf : Region.free md ops l i = true) (hr : (Region.ready md ops l).contains i = true)
 (hq : ∀ c a w,Q (.panic c) (a.put o.dst v) w → Q (.panic c) a w) (hy : YieldsIf P ops S o v a) (hw : S w) (h : wpAnyG P md ops Q S n (l.setIfInBounds i true) (a.put o.dst v) w) : wpAnyG P md ops Q S (n + 1) l a w:=
 wpAnyG.first ho (Region.noSelect_spec hs) hq n l a w (Region.free_spec ho hf) (by simpa using hr) hy hw h
theorem wpAnyG.done {l : Array Bool} {a : Act} {w : World} (hr : Region.ready md ops l = []) (h : Q .normal a w) (n : Nat) : wpAnyG P md ops Q S n l a w:=by
 cases n with
 | zero=>exact ⟨hr,h⟩
 | succ n=>exact ⟨fun _=>h,fun i hi=>by rw [hr] at hi;cases hi⟩
def NextG (P : Program) (md : Region.Mode) (ops : Array Oper) (Q : Exit → Act → World → Prop) (S : World → Prop) (n : Nat) (l : Array Bool) (a : Act) (w : World) (rs : List Nat) : Prop:=
 ∀ i ∈ rs,wpOp P ops Q i (fun b v=>(lastOp md ops i = false → S v) ∧ wpAnyG P md ops Q S n (l.setIfInBounds i true) b v) a w
theorem NextG.nil {n : Nat} {l : Array Bool} {a : Act} {w : World} : NextG P md ops Q S n l a w []:=fun _ h=>by cases h
theorem NextG.cons {n : Nat} {l : Array Bool} {a : Act} {w : World} {i : Nat} {o : Oper} {rs : List Nat} (ho : ops[i]? = some o)
 (h : ∀ K : Act → World → Prop,Hid (∀ b v,(lastOp md ops i = false → S v) → ((lastOp md ops i = false → S v) → wpAnyG P md ops Q S n (l.setIfInBounds i true) b v) → K b v) → if Region.wanted o (yielded ops a.tmps) = true then Oper.wp P o a w K Q else K (a.put o.dst undef) w)
 (hs : NextG P md ops Q S n l a w rs) : NextG P md ops Q S n l a w (i :: rs):=fun j hj=>by
 rcases List.mem_cons.1 hj with rfl | hj
 · exact wpOp_step ho fun K hK=>h K fun b v h1 h2=>hK b v ⟨h1,h2 h1⟩
 · exact hs j hj
theorem NextG.last {n : Nat} {l : Array Bool} {a : Act} {w : World} {i : Nat} {o : Oper} {rs : List Nat} (ho : ops[i]? = some o) (hl : lastOp md ops i = true)
 (h : ∀ K : Act → World → Prop,Hid (∀ b v,wpAnyG P md ops Q S n (l.setIfInBounds i true) b v → K b v) → if Region.wanted o (yielded ops a.tmps) = true then Oper.wp P o a w K Q else K (a.put o.dst undef) w)
 (hs : NextG P md ops Q S n l a w rs) : NextG P md ops Q S n l a w (i :: rs):=fun j hj=>by
 rcases List.mem_cons.1 hj with rfl | hj
 · exact wpOp_step ho fun K hK=>h K fun b v h2=>hK b v ⟨fun h3=>absurd (hl.symm.trans h3) (by simp),h2⟩
 · exact hs j hj
theorem wpAnyG.next {rs : List Nat} {n : Nat} {l : Array Bool} {a : Act} {w : World} (hr : Region.ready md ops l = rs) (hne : rs ≠ []) (h : NextG P md ops Q S n l a w rs) : wpAnyG P md ops Q S (n + 1) l a w:=
 ⟨fun h0=>absurd (hr.symm.trans h0) hne,fun i hi=>h i (by rw [← hr];exact hi)⟩
theorem wp_region_G {id : Nat} {a : Act} {w : World} (hm : P.follows .mixedOrders = true) (hS : S w.drew) (h : S w.drew → wpAnyG P .any ops Q S ops.size (Array.replicate ops.size false) a w.drew) : (Code.region id ops true).wp P Q a w:=
 wp_region_any hm (wpAnyG.any _ _ _ _ (h hS))
end
def updF {α : Type} (f : Nat → α) (i : Nat) (v : α) : Nat → α:=fun j=>if j = i then v else f j
theorem updF_self {α : Type} (f : Nat → α) (i : Nat) (v : α) : updF f i v i = v:=if_pos rfl
theorem updF_ne {α : Type} (f : Nat → α) {i j : Nat} (v : α) (h : j ≠ i) : updF f i v j = f j:=if_neg h
def dstOf (ops : Array Oper) (i : Nat) : Option Tmp:=(ops[i]?).bind (·.dst)
def looseL (L : List Nat) (done : Nat → Bool) (listed : Array Bool) : Array Bool:=L.foldl (fun l i=>if done i then l.setIfInBounds i true else l) listed
def looseA (ops : Array Oper) (L : List Nat) (done : Nat → Bool) (f : Nat → Value) (a : Act) : Act:=L.foldl (fun a i=>if done i then a.put (dstOf ops i) (f i) else a) a
theorem looseL_get (L : List Nat) (done : Nat → Bool) (listed : Array Bool) (j : Nat) : (looseL L done listed)[j]? = if L.contains j && done j then (listed[j]?).map (fun _=>true) else listed[j]?:=by
 unfold looseL
 induction L generalizing listed with
 | nil=>simp
 | cons x xs ih=>
   rw [List.foldl_cons,ih,List.contains_cons]
   by_cases hx : j = x
   · subst hx
     cases hd : done j
     · simp
     · simp only [if_true,Bool.and_true,beq_self_eq_true,Bool.true_or]
       by_cases hj : j < listed.size
       · simp [hj]
       · simp [hj]
   · have hbx : (j == x) = false:=by simpa using hx
     rw [hbx,Bool.false_or]
     cases hd : done x
     · simp
     · simp only [if_true]
       rw [Array.getElem?_setIfInBounds_ne (fun e=>hx e.symm)]
theorem looseL_upd {L : List Nat} {done : Nat → Bool} {listed : Array Bool} {i : Nat} (hi : i ∈ L) : looseL L (updF done i true) listed = (looseL L done listed).setIfInBounds i true:=by
 apply Array.ext_getElem?
 intro j
 rw [looseL_get]
 by_cases hji : j = i
 · subst hji
   rw [updF_self]
   have hc : L.contains j = true:=by simpa using hi
   rw [hc]
   simp only [Bool.and_true,if_true]
   by_cases hj : j < (looseL L done listed).size
   · rw [Array.getElem?_setIfInBounds_self_of_lt hj]
     have h1 : (looseL L done listed)[j]? = some (looseL L done listed)[j]:=Array.getElem?_eq_getElem hj
     rw [looseL_get] at h1
     cases hl : listed[j]? with
     | none=>rw [hl] at h1;split at h1 <;> cases h1
     | some b=>rfl
   · have h1 : (looseL L done listed)[j]? = none:=Array.getElem?_eq_none (by omega)
     rw [Array.setIfInBounds_eq_of_size_le (by omega),h1]
     rw [looseL_get] at h1
     cases hl : listed[j]? with
     | none=>rfl
     | some b=>rw [hl] at h1;split at h1 <;> cases h1
 · rw [updF_ne _ _ hji,Array.getElem?_setIfInBounds_ne (fun e=>hji e.symm),looseL_get]
theorem looseA_congr {ops : Array Oper} {L : List Nat} {done done' : Nat → Bool} {f f' : Nat → Value} (a : Act) (h : ∀ i ∈ L,done i = done' i ∧ f i = f' i) : looseA ops L done f a = looseA ops L done' f' a:=by
 unfold looseA
 induction L generalizing a with
 | nil=>rfl
 | cons x xs ih=>
   rw [List.foldl_cons,List.foldl_cons,(h x List.mem_cons_self).1,(h x List.mem_cons_self).2]
   exact ih _ fun i hi=>h i (List.mem_cons_of_mem _ hi)
theorem looseA_put {ops : Array Oper} {L : List Nat} {done : Nat → Bool} {f : Nat → Value} (a : Act) {d : Option Tmp} (v : Value) (h : ∀ i ∈ L,∀ t,d = some t → dstOf ops i ≠ some t) : looseA ops L done f (a.put d v) = (looseA ops L done f a).put d v:=by
 unfold looseA
 induction L generalizing a with
 | nil=>rfl
 | cons x xs ih=>
   rw [List.foldl_cons,List.foldl_cons]
   cases hd : done x
   · exact ih a fun i hi=>h i (List.mem_cons_of_mem _ hi)
   · simp only [if_true]
     rw [Act.put_comm a v (f x) (h x List.mem_cons_self)]
     exact ih _ fun i hi=>h i (List.mem_cons_of_mem _ hi)
theorem looseA_upd {ops : Array Oper} {L : List Nat} {done : Nat → Bool} {f : Nat → Value} (a : Act) {i : Nat} (hi : i ∈ L) (hn : L.Nodup) (hd : ∀ j ∈ L,j ≠ i → ∀ t,dstOf ops i = some t → dstOf ops j ≠ some t) (v : Value) (hf : done i = false) :
 looseA ops L (updF done i true) (updF f i v) a = (looseA ops L done f a).put (dstOf ops i) v:=by
 induction L generalizing a with
 | nil=>cases hi
 | cons x xs ih=>
   have hnx:=List.nodup_cons.1 hn
   by_cases hx : x = i
   · subst hx
     have e1 : looseA ops (x :: xs) (updF done x true) (updF f x v) a = looseA ops xs done f (a.put (dstOf ops x) v):=by
      unfold looseA
      rw [List.foldl_cons,updF_self,updF_self]
      simp only [if_true]
      exact looseA_congr _ fun j hj=>⟨updF_ne _ _ (fun e=>hnx.1 (e ▸ hj)),updF_ne _ _ (fun e=>hnx.1 (e ▸ hj))⟩
     have e2 : looseA ops (x :: xs) done f a = looseA ops xs done f a:=by
      unfold looseA
      rw [List.foldl_cons,hf]
      rfl
     rw [e1,e2]
     exact looseA_put a v fun j hj t ht=>hd j (List.mem_cons_of_mem _ hj) (fun e=>hnx.1 (e ▸ hj)) t ht
   · have hxs : i ∈ xs:=by
      rcases List.mem_cons.1 hi with h | h
      · exact absurd h.symm hx
      · exact h
     have e1 : ∀ (g : Nat → Bool) (k : Nat → Value),looseA ops (x :: xs) g k a = looseA ops xs g k (if g x then a.put (dstOf ops x) (k x) else a):=fun g k=>by unfold looseA;rw [List.foldl_cons]
     rw [e1,e1,updF_ne _ _ hx,updF_ne _ _ hx]
     exact ih _ hxs hnx.2 fun j hj=>hd j (List.mem_cons_of_mem _ hj)
theorem looseA_none (ops : Array Oper) (L : List Nat) (f : Nat → Value) (a : Act) : looseA ops L (fun _=>false) f a = a:=by
 unfold looseA
 induction L with
 | nil=>rfl
 | cons x xs ih=>rw [List.foldl_cons];exact ih
theorem countP_upd {L : List Nat} {done : Nat → Bool} {i : Nat} (hn : L.Nodup) (hi : i ∈ L) (hd : done i = false) : L.countP (updF done i true) = L.countP done + 1:=by
 induction L with
 | nil=>cases hi
 | cons x xs ihx=>
   have hnx:=List.nodup_cons.1 hn
   rw [List.countP_cons,List.countP_cons]
   by_cases hx : x = i
   · subst hx
     have e8 : xs.countP (updF done x true) = xs.countP done:=List.countP_congr fun j hj=>by
      rw [updF_ne _ _ (show j ≠ x from fun e=>hnx.1 (by rw [← e];exact hj))]
     rw [e8,updF_self,hd]
     simp
   · have hxs : i ∈ xs:=by
      rcases List.mem_cons.1 hi with h | h
      · exact absurd h.symm hx
      · exact h
     rw [ihx hnx.2 hxs,updF_ne _ _ hx]
     omega
section
variable {P : Program} {ops : Array Oper} {Q : Exit → Act → World → Prop} {md : Region.Mode} {S : World → Prop}
theorem looseA_eval {L : List Nat} {done : Nat → Bool} {f : Nat → Value} (a : Act) {o : Oper} (hs : ∀ cs b,o.op ≠ .select cs b) (h : ∀ i ∈ L,done i = true → ∀ d,dstOf ops i = some d → d ∉ o.looksAt ops) :
 execOp (looseA ops L done f a).eval o = execOp a.eval o ∧ Region.wanted o (yielded ops (looseA ops L done f a).tmps) = Region.wanted o (yielded ops a.tmps) ∧ (looseA ops L done f a).tmps.size = a.tmps.size:=by
 unfold looseA
 induction L generalizing a with
 | nil=>exact ⟨rfl,rfl,rfl⟩
 | cons x xs ih=>
   rw [List.foldl_cons]
   have hx:=h x List.mem_cons_self
   cases hd : done x
   · exact ih a fun i hi=>h i (List.mem_cons_of_mem _ hi)
   · simp only [if_true]
     obtain ⟨h1,h2,h3⟩:=ih (a.put (dstOf ops x) (f x)) fun i hi=>h i (List.mem_cons_of_mem _ hi)
     refine ⟨h1.trans (execOp_put o hs a _ _ (hx hd)),h2.trans (wanted_put o a _ _ (hx hd)),h3.trans ?_⟩
     cases dstOf ops x with
     | none=>rfl
     | some t=>exact Array.size_setIfInBounds
theorem wp_move {o : Oper} {a a' : Act} {w : World} {G : Value → World → Prop} {K : Act → World → Prop} {t : Tmp} (hd : o.dst = some t) (ht : t < a.tmps.size) (hs : ∀ v u,a.put (some t) v = a.put (some t) u → v = u) (he : execOp a'.eval o = execOp a.eval o)
 (h : Oper.wp P o a w (fun a1 w1=>∃ v,a1 = a.put o.dst v ∧ G v w1) (fun _ _ _=>False)) (hk : ∀ v w1,G v w1 → K (a'.put o.dst v) w1) : Oper.wp P o a' w K Q:=by
 unfold Oper.wp at *
 rw [he]
 rw [hd] at h hk
 have key : ∀ u w1,(∃ v,a.put (some t) u = a.put (some t) v ∧ G v w1) → K (a'.put (some t) u) w1:=by
  rintro u w1 ⟨v,e,g⟩
  rw [hs u v e]
  exact hk v w1 g
 generalize (execOp a.eval o).run P w = r at *
 cases r with
 | ok n w'=>
   cases n <;> simp only [Oper.upon,hd] at h ⊢
   case value u=>exact key _ _ h
   case skip=>exact key _ _ h
   case defer d=>
    exfalso
    obtain ⟨v,e,_⟩:=h
    have e2:=congrArg (fun x : Act=>x.defers.length) e
    simp [Act.put] at e2
   case enter f args=>
    refine Calls.mono h fun e w'' he=>?_
    cases e with
    | returned u=>exact key _ _ he
    | panicked c=>exact he.elim
    | outgrown=>obtain ⟨_,_,h9⟩:=he;exact h9.elim
   case row row args=>exact Rows.mono h fun u w'' he=>key _ _ he
 | halt x w'=>
   cases x <;> simp only [Oper.upon] at h ⊢
def Loosed (P : Program) (S : World → Prop) (W0 : World) (ops : Array Oper) (a : Act) (i : Nat) (R : Value → Nat → Nat → World → Prop) : Prop:=
 ∃ o t,ops[i]? = some o ∧ o.dst = some t ∧ t < a.tmps.size ∧ Region.wanted o (yielded ops a.tmps) = true ∧
  (∀ w,S w → Below W0.heap.size W0 w → ∀ K : Act → World → Prop,(∀ v w',S w' → Below w.heap.size w w' → R v w.heap.size w'.heap.size w' → K (a.put o.dst v) w') → Oper.wp P o a w K (fun _ _ _=>False)) ∧
  (∀ v lo hi w w',R v lo hi w → Below w.heap.size w w' → hi ≤ w.heap.size → R v lo hi w')
def looseOk (md : Region.Mode) (ops : Array Oper) (listed : Array Bool) (core flo : List Nat) : Bool:=
 (core ++ flo).all (fun i=>!listed.getD i true) && (core ++ flo).all (fun i=>(core ++ flo).all fun j=>i == j || match ops[i]?,ops[j]? with | some oi,some oj=>oi.apart ops oj | _,_=>false) &&
   (List.range ops.size).all (fun j=>listed.getD j true || (core ++ flo).contains j || core.all fun c=>match ops[j]? with | some o=>o.after.any fun e=>Region.binds md e && e.on == c | none=>false) &&
   (List.range core.length).all (fun k=>match core[k]? with | some i=>(match ops[i]? with | some o=>o.after.all fun e=>!Region.binds md e || listed.getD e.on false || (core.take k).contains e.on | none=>false) | none=>false)
theorem put_inj {a : Act} {t : Tmp} (ht : t < a.tmps.size) (v u : Value) (h : a.put (some t) v = a.put (some t) u) : v = u:=by
 have h1:=congrArg (fun x : Act=>x.tmps[t]?) h
 simp [Act.put,ht] at h1
 exact h1
theorem wpAnyG.loose1 {core flo : List Nat} (R : Nat → Value → Nat → Nat → World → Prop) (W0 : World) {a : Act} {w : World} {listed : Array Bool} {fuel0 : Nat}
 (hn : (core ++ flo).Nodup) (hok : looseOk md ops listed core flo = true) (hsel : Region.noSelect ops = true) (hfu : (core ++ flo).length ≤ fuel0)
 (h1 : ∀ i ∈ core ++ flo,Loosed P S W0 ops a i (R i)) (hS : S w) (hB : Below W0.heap.size W0 w)
 (hend : ∀ (done : Nat → Bool) (f : Nat → Value) (lo hi : Nat → Nat) (w' : World),(∀ i ∈ core,done i = true) → S w' → Below w.heap.size w w' →
   (∀ i ∈ core ++ flo,done i = true → R i (f i) (lo i) (hi i) w' ∧ w.heap.size ≤ lo i ∧ lo i ≤ hi i ∧ hi i ≤ w'.heap.size) →
   (∀ i ∈ core ++ flo,∀ j ∈ core ++ flo,i ≠ j → done i = true → done j = true → hi i ≤ lo j ∨ hi j ≤ lo i) →
   ∀ fuel,(core ++ flo).countP done + fuel = fuel0 → wpAnyG P md ops Q S fuel (looseL (core ++ flo) done listed) (looseA ops (core ++ flo) done f a) w') :
 wpAnyG P md ops Q S fuel0 listed a w:=by
 unfold looseOk at hok
 simp only [Bool.and_eq_true,List.all_eq_true] at hok
 obtain ⟨⟨⟨k1,k2⟩,k3⟩,k4⟩:=hok
 obtain ⟨L,hL⟩ : ∃ L,core ++ flo = L:=⟨_,rfl⟩
 rw [hL] at hn hfu h1 hend k1 k2 k3
 have hcore : ∀ i ∈ core,i ∈ L:=fun i hi=>by rw [← hL];exact List.mem_append_left _ hi
 have hun : ∀ i ∈ L,listed.getD i true = false:=fun i hi=>by have:=k1 i hi;simpa using this
 have hap : ∀ i ∈ L,∀ j ∈ L,i ≠ j → ∀ oi oj,ops[i]? = some oi → ops[j]? = some oj → oi.apart ops oj = true:=fun i hi j hj hne oi oj e1 e2=>by
  have h:=k2 i hi j hj
  rw [e1,e2] at h
  simpa [hne] using h
 have hdst : ∀ i ∈ L,∀ j ∈ L,j ≠ i → ∀ t,dstOf ops i = some t → dstOf ops j ≠ some t:=fun i hi j hj hne t ht e=>by
  obtain ⟨oi,ti,e1,d1,_⟩:=h1 i hi
  obtain ⟨oj,tj,e2,d2,_⟩:=h1 j hj
  unfold dstOf at ht e
  rw [e1] at ht
  rw [e2] at e
  exact (Oper.apart_spec (hap i hi j hj (fun h=>hne h.symm) oi oj e1 e2)).2.1 t ht e
 have hlook : ∀ i ∈ L,∀ j ∈ L,j ≠ i → ∀ o,ops[i]? = some o → ∀ d,dstOf ops j = some d → d ∉ o.looksAt ops:=fun i hi j hj hne o ho d hd=>by
  obtain ⟨oj,tj,e2,d2,_⟩:=h1 j hj
  unfold dstOf at hd
  rw [e2] at hd
  exact (Oper.apart_spec (hap j hj i hi hne oj o e2 ho)).1 d hd
 have hg : ∀ (done : Nat → Bool) (j : Nat) (d : Bool),(looseL L done listed).getD j d = if L.contains j && done j then true else listed.getD j d:=fun done j d=>by
  have h:=looseL_get L done listed j
  have e1 : (looseL L done listed).getD j d = ((looseL L done listed)[j]?).getD d:=by simp
  have e2 : listed.getD j d = (listed[j]?).getD d:=by simp
  rw [e1,e2,h]
  split
  · rename_i hc
    have hj : j ∈ L:=by simp at hc;exact hc.1
    have:=hun j hj
    have e3 : listed.getD j true = (listed[j]?).getD true:=by simp
    rw [e3] at this
    cases hl : listed[j]? with
    | none=>rw [hl] at this;cases this
    | some b=>rfl
  · rfl
 suffices H : ∀ (fuel : Nat) (done : Nat → Bool) (f : Nat → Value) (lo hi : Nat → Nat) (w' : World),S w' → Below w.heap.size w w' →
  (∀ i ∈ L,done i = true → R i (f i) (lo i) (hi i) w' ∧ w.heap.size ≤ lo i ∧ lo i ≤ hi i ∧ hi i ≤ w'.heap.size) →
  (∀ i ∈ L,∀ j ∈ L,i ≠ j → done i = true → done j = true → hi i ≤ lo j ∨ hi j ≤ lo i) →
  L.countP done + fuel = fuel0 → wpAnyG P md ops Q S fuel (looseL L done listed) (looseA ops L done f a) w' by
  have h:=H fuel0 (fun _=>false) (fun _=>undef) (fun _=>0) (fun _=>0) w hS (Below.refl _ _) (fun i _ h=>by cases h) (fun i _ j _ _ h=>by cases h) (by simp)
  have e1 : looseL L (fun _=>false) listed = listed:=by
   apply Array.ext_getElem?
   intro j
   rw [looseL_get]
   simp
  rw [e1,looseA_none] at h
  exact h
 intro fuel
 induction fuel with
 | zero=>
   intro done f lo hi w' hS' hB' hR hD hc
   refine hend done f lo hi w' (fun i hi'=>?_) hS' hB' hR hD 0 hc
   have hall : L.countP done = L.length:=Nat.le_antisymm List.countP_le_length (by omega)
   exact List.countP_eq_length.1 hall i (hcore i hi')
 | succ fuel ih=>
   intro done f lo hi w' hS' hB' hR hD hc
   by_cases hall : ∀ i ∈ core,done i = true
   · exact hend done f lo hi w' hall hS' hB' hR hD _ hc
   · have hrd : ∀ i,i ∈ Region.ready md ops (looseL L done listed) → i ∈ L ∧ done i = false:=fun i hi'=>by
      obtain ⟨hu,o,ho,hw⟩:=mem_ready.1 hi'
      rw [hg] at hu
      by_cases hiL : i ∈ L
      · refine ⟨hiL,?_⟩
        cases hdi : done i
        · rfl
        · rw [hdi] at hu
          have hc9 : L.contains i = true:=by simpa using hiL
          rw [hc9] at hu
          cases hu
      · exfalso
        have hc9 : L.contains i = false:=by simpa using hiL
        rw [hc9] at hu
        simp only [Bool.false_and,Bool.false_eq_true,if_false] at hu
        have hlt : i < ops.size:=(Array.getElem?_eq_some_iff.1 ho).1
        have h:=k3 i (List.mem_range.2 hlt)
        rw [hu,hc9] at h
        simp only [Bool.false_or,List.all_eq_true,ho] at h
        refine hall fun c hc'=>?_
        have h2:=h c hc'
        rw [Array.any_eq_true'] at h2
        obtain ⟨e,he,h3⟩:=h2
        simp only [Bool.and_eq_true,beq_iff_eq] at h3
        have h4:=hw e he h3.1
        rw [hg,h3.2] at h4
        cases hdc : done c
        · rw [hdc] at h4
          simp only [Bool.and_false,Bool.false_eq_true,if_false] at h4
          have h5:=hun c (hcore c hc')
          exfalso
          have e1 : listed.getD c false = (listed[c]?).getD false:=by simp
          have e2 : listed.getD c true = (listed[c]?).getD true:=by simp
          rw [e1] at h4
          rw [e2] at h5
          cases hl : listed[c]? with
          | none=>rw [hl] at h4;cases h4
          | some b=>rw [hl] at h4 h5;rw [Option.getD_some] at h4 h5;rw [h4] at h5;cases h5
        · rfl
     refine ⟨fun h0=>?_,fun i hi'=>?_⟩
     · exfalso
       have : ∃ k,∃ hk : k < core.length,done core[k] = false ∧ ∀ m (hm : m < core.length),m < k → done core[m] = true:=by
        have hex : ∃ k,∃ hk : k < core.length,done core[k] = false:=by
         apply Classical.byContradiction
         intro hno
         refine hall fun i hi'=>?_
         obtain ⟨k,hk,rfl⟩:=List.mem_iff_getElem.1 hi'
         cases hd : done core[k]
         · exact absurd ⟨k,hk,hd⟩ hno
         · rfl
        obtain ⟨k,hk,hd⟩:=hex
        induction k using Nat.strongRecOn with
        | _ k ihk=>
          by_cases hm : ∃ m,∃ hm : m < core.length,m < k ∧ done core[m] = false
          · obtain ⟨m,hm,hlt,hdm⟩:=hm
            exact ihk m hlt hm hdm
          · refine ⟨k,hk,hd,fun m hm' hlt=>?_⟩
            cases hd' : done core[m]
            · exact absurd ⟨m,hm',hlt,hd'⟩ hm
            · rfl
       obtain ⟨k,hk,hdk,hbe⟩:=this
       have h:=k4 k (List.mem_range.2 hk)
       have hkL:=hcore core[k] (List.getElem_mem hk)
       obtain ⟨o,t,ho,_⟩:=h1 _ hkL
       rw [List.getElem?_eq_getElem hk] at h
       simp only [ho] at h
       have hr : core[k] ∈ Region.ready md ops (looseL L done listed):=mem_ready.2 ⟨by
        rw [hg,hdk,Bool.and_false]
        exact hun _ hkL,o,ho,fun e he hb=>by
        rw [Array.all_eq_true'] at h
        have h2:=h e he
        rw [hb] at h2
        rw [hg]
        simp only [Bool.not_true,Bool.false_or,Bool.or_eq_true] at h2
        split
        · rfl
        · rename_i hno
          rcases h2 with h2 | h2
          · exact h2
          · exfalso
            have h3 : e.on ∈ core.take k:=by simpa using h2
            obtain ⟨m,hm,e3⟩:=List.mem_iff_getElem.1 h3
            have hm2 : m < k:=by rw [List.length_take] at hm;omega
            have hm3 : m < core.length:=by omega
            rw [List.getElem_take] at e3
            have h4:=hbe m hm3 hm2
            rw [e3] at h4
            have h5 : L.contains e.on = true:=by
             have:=hcore core[m] (List.getElem_mem hm3)
             rw [e3] at this
             simpa using this
            rw [h5,h4] at hno
            exact hno rfl⟩
       rw [h0] at hr
       cases hr
     · obtain ⟨hiL,hdi⟩:=hrd i hi'
       obtain ⟨o,t,ho,hd,ht,hwt,hrun,hst⟩:=h1 i hiL
       have hso : ∀ cs b,o.op ≠ .select cs b:=fun cs b=>Region.noSelect_spec hsel i o cs b ho
       obtain ⟨ev,wt,sz⟩:=looseA_eval (ops:=ops) (L:=L) (done:=done) (f:=f) a hso fun j hj hdj d hd'=>hlook i hiL j hj (fun e=>by rw [e] at hdj;rw [hdj] at hdi;cases hdi) o ho d hd'
       refine wpOp_step ho fun K' hK=>?_
       rw [if_pos (wt.trans hwt)]
       have hrun':=hrun w' hS' (hB.trans (hB'.mono hB.size)) (fun a1 w1=>∃ v,a1 = a.put o.dst v ∧ (S w1 ∧ Below w'.heap.size w' w1 ∧ R i v w'.heap.size w1.heap.size w1)) (fun v w1 s1 b1 r1=>⟨v,rfl,s1,b1,r1⟩)
       refine wp_move hd ht (fun v u=>put_inj ht v u) ev hrun' ?_
       rintro v w1 ⟨s1,b1,r1⟩
       refine hK _ _ ⟨fun _=>s1,?_⟩
       have hdo : dstOf ops i = o.dst:=by unfold dstOf;rw [ho];rfl
       rw [← hdo,← looseA_upd a hiL hn (fun j hj hne t' ht'=>hdst i hiL j hj hne t' ht') v hdi,← looseL_upd hiL]
       refine ih (updF done i true) (updF f i v) (updF lo i w'.heap.size) (updF hi i w1.heap.size) w1 s1 ?_ ?_ ?_ ?_
       · exact hB'.trans (b1.mono hB'.size)
       · intro j hj hdj
         by_cases hji : j = i
         · subst hji
           rw [updF_self,updF_self,updF_self]
           exact ⟨r1,hB'.size,b1.size,Nat.le_refl _⟩
         · rw [updF_ne _ _ hji] at hdj
           rw [updF_ne _ _ hji,updF_ne _ _ hji,updF_ne _ _ hji]
           obtain ⟨g1,g2,g3,g4⟩:=hR j hj hdj
           obtain ⟨_,_,_,_,_,_,_,hst'⟩:=h1 j hj
           exact ⟨hst' _ _ _ _ _ g1 b1 g4,g2,g3,Nat.le_trans g4 b1.size⟩
       · intro j hj k hk hne hdj hdk
         by_cases hji : j = i
         · subst hji
           have hki : k ≠ j:=fun e=>hne e.symm
           rw [updF_ne _ _ hki] at hdk
           rw [updF_self,updF_self,updF_ne _ _ hki,updF_ne _ _ hki]
           exact .inr (hR k hk hdk).2.2.2
         · rw [updF_ne _ _ hji] at hdj
           rw [updF_ne _ _ hji,updF_ne _ _ hji]
           by_cases hki : k = i
           · subst hki
             rw [updF_self,updF_self]
             exact .inl (hR j hj hdj).2.2.2
           · rw [updF_ne _ _ hki] at hdk
             rw [updF_ne _ _ hki,updF_ne _ _ hki]
             exact hD j hj k hk hne hdj hdk
       · have e9:=countP_upd hn hiL hdi
         omega
def looseP (ds : List (Nat × Tmp)) (done : Nat → Bool) (f : Nat → Value) (a : Act) : Act:=ds.foldl (fun a p=>if done p.1 then a.put (some p.2) (f p.1) else a) a
theorem looseP_is {ds : List (Nat × Tmp)} {done : Nat → Bool} {f : Nat → Value} (a : Act) (h : ∀ p ∈ ds,dstOf ops p.1 = some p.2) : looseA ops (ds.map (·.1)) done f a = looseP ds done f a:=by
 unfold looseA looseP
 induction ds generalizing a with
 | nil=>rfl
 | cons x xs ih=>
   rw [List.map_cons,List.foldl_cons,List.foldl_cons,h x List.mem_cons_self]
   exact ih _ fun p hp=>h p (List.mem_cons_of_mem _ hp)
def LooseAt (P : Program) (W0 : World) (ops : Array Oper) (a : Act) (R : Nat → Value → Nat → Nat → World → Prop) (i : Nat) : Prop:=
 ∃ o t,ops[i]? = some o ∧ o.dst = some t ∧ t < a.tmps.size ∧ Region.wanted o (yielded ops a.tmps) = true ∧
  (∀ w,Below W0.heap.size W0 w → ∀ K : Act → World → Prop,(∀ v w',Below w.heap.size w w' → R i v w.heap.size w'.heap.size w' → K (a.put o.dst v) w') → Oper.wp P o a w K (fun _ _ _=>False)) ∧
  (∀ v lo hi w w',R i v lo hi w → Below w.heap.size w w' → hi ≤ w.heap.size → R i v lo hi w')
theorem LooseAt.mk {W0 : World} {a : Act} {R : Nat → Value → Nat → Nat → World → Prop} {i : Nat} (o : Oper) (t : Tmp) (ho : ops[i]? = some o) (hd : o.dst = some t) (ht : decide (t < a.tmps.size) = true) (hw : Region.wanted o (yielded ops a.tmps) = true)
 (hr : ∀ w,Below W0.heap.size W0 w → ∀ K : Act → World → Prop,Hid (∀ v w',Below w.heap.size w w' → R i v w.heap.size w'.heap.size w' → K (a.put o.dst v) w') → Oper.wp P o a w K (fun _ _ _=>False))
 (hs : ∀ v lo hi w w',R i v lo hi w → Below w.heap.size w w' → hi ≤ w.heap.size → R i v lo hi w') : LooseAt P W0 ops a R i:=
 ⟨o,t,ho,hd,of_decide_eq_true ht,hw,hr,hs⟩
theorem loose_nil {p : Nat → Prop} : ∀ i ∈ ([] : List Nat),p i:=fun i h=>by cases h
theorem loose_cons {p : Nat → Prop} {i : Nat} {is : List Nat} (h : p i) (hs : ∀ j ∈ is,p j) : ∀ j ∈ i :: is,p j:=fun j hj=>by
 rcases List.mem_cons.1 hj with rfl | hj
 · exact h
 · exact hs j hj
def looseOk2 (md : Region.Mode) (ops : Array Oper) (listed : Array Bool) (fuel0 : Nat) (core flo : List Nat) (ds : List (Nat × Tmp)) : Bool:=
 looseOk md ops listed core flo && Region.noSelect ops && decide (core ++ flo).Nodup && decide ((core ++ flo).length ≤ fuel0) && decide (ds.map (·.1) = core ++ flo) && ds.all (fun p=>match ops[p.1]? with | some o=>o.dst == some p.2 | none=>false)
theorem wpAnyG.loose (core flo : List Nat) (ds : List (Nat × Tmp)) (R : Nat → Value → Nat → Nat → World → Prop) {a : Act} {w : World} {listed : Array Bool} {fuel0 : Nat}
 (hok : looseOk2 md ops listed fuel0 core flo ds = true) (hS : ∀ w',Below w.heap.size w w' → S w')
 (h1 : ∀ i ∈ core ++ flo,LooseAt P w ops a R i)
 (hend : ∀ (done : Nat → Bool) (f : Nat → Value) (lo hi : Nat → Nat) (w' : World),(∀ i ∈ core,done i = true) → Below w.heap.size w w' →
   (∀ i ∈ core ++ flo,done i = true → R i (f i) (lo i) (hi i) w' ∧ w.heap.size ≤ lo i ∧ lo i ≤ hi i ∧ hi i ≤ w'.heap.size) →
   (∀ i ∈ core ++ flo,∀ j ∈ core ++ flo,i ≠ j → done i = true → done j = true → hi i ≤ lo j ∨ hi j ≤ lo i) →
   ∀ fuel,(core ++ flo).countP done + fuel = fuel0 → wpAnyG P md ops Q S fuel (looseL (core ++ flo) done listed) (looseP ds done f a) w') :
 wpAnyG P md ops Q S fuel0 listed a w:=by
 unfold looseOk2 at hok
 simp only [Bool.and_eq_true,decide_eq_true_eq,List.all_eq_true] at hok
 obtain ⟨⟨⟨⟨⟨k1,k2⟩,k3⟩,k4⟩,k5⟩,k6⟩:=hok
 have hds : ∀ p ∈ ds,dstOf ops p.1 = some p.2:=fun p hp=>by
  have h:=k6 p hp
  unfold dstOf
  cases ho : ops[p.1]? with
  | none=>rw [ho] at h;cases h
  | some o=>rw [ho] at h;simpa using h
 refine wpAnyG.loose1 (S:=S) R w k3 k1 k2 k4 (fun i hi=>?_) (hS w (Below.refl _ _)) (Below.refl _ _) ?_
 · obtain ⟨o,t,g1,g2,g3,g4,g5,g6⟩:=h1 i hi
   exact ⟨o,t,g1,g2,g3,g4,fun w1 _ hB K hK=>g5 w1 hB K fun v w2 b2 r2=>hK v w2 (hS w2 (hB.trans (b2.mono hB.size))) b2 r2,g6⟩
 · intro done f lo hi w' hc _ hB hR hD fuel hf
   rw [← k5,looseP_is a hds,k5]
   exact hend done f lo hi w' hc hB hR hD fuel hf
end
end Go.Proofs.Ythapabjlhooglaa
namespace Go.Proofs.Ythapabjlhooglaa
open Go Go.RowKit
set_option linter.unusedSimpArgs false
set_option linter.unusedVariables false
theorem built_fl (n : Int) (k a m : Int) (Ad As Aq : Option Addr) (d s q cd cs cq : Nat) : Try.prog.built 67 [(0,.int .i64 n),(1,.agg #[.int .u8 k,.int .i64 a,.int .i64 m,.slice Ad d cd]),(2,.slice As s cs),(3,.slice Aq q cq)] = some #[.int .i64 n,.int .u8 k,.int .i64 a,.int .i64 m,.slice Ad d cd,.slice As s cs,.slice Aq q cq,.slice none 0 0]:=by
 kernel_rfl
theorem builtS_fl (v0 v1 v2 v3 v4 v5 v6 v7 : Value) : Try.prog.builtSlice 67 1 [(0,.agg #[v0,v1,v2,v3,v4,v5,v6,v7])] = some #[v0,v1,v2,v3,v4,v5,v6,v7]:=by
 kernel_rfl
theorem seqV_one (qs : List Nat) : ∀ u ∈ qs.map seqV,u.oneCell' = true:=by
 intro u hu
 obtain ⟨y,_,rfl⟩:=List.mem_map.1 hu
 rfl
def TwR (g : FlTy.T) (i : Nat) (v : Value) (lo hi : Nat) (w : World) : Prop:=
 match i with
 | 4=>∃ A c,v = .agg #[.int .u8 (kI g),.int .i64 (fA g),.int .i64 (fM g),.slice A (fD g).length c] ∧ RdIn w (InL w lo hi) (.sl .byte) (fD g) [.slice A (fD g).length c]
 | 7=>NumRow w (Iv lo hi) 5 v ((fS g).map byteV)
 | 10=>NumRow w (Iv lo hi) 22 v ((fQ g).map seqV)
 | _=>∃ gx,v = .pointer (some ⟨gx,0,none⟩) ∧ BoxOf w gx #[.int .i64 0,.int .u8 0,.int .i64 0,.int .i64 0,.slice none 0 0,.slice none 0 0,.slice none 0 0,.slice none 0 0] 67 ∧ lo ≤ gx ∧ gx < hi
theorem TwR.keep {g : FlTy.T} {i : Nat} (v : Value) (lo hi : Nat) (w w' : World) (h : TwR g i v lo hi w) (hb : Below w.heap.size w w') (hh : hi ≤ w.heap.size) : TwR g i v lo hi w':=by
 unfold TwR at *
 split at h
 · obtain ⟨A,c,e,r⟩:=h
   exact ⟨A,c,e,(r.below hb).mono fun b hb'=>⟨hb'.1,hb'.2.below hb⟩⟩
 · exact h.frame fun b hb'=>hb.block b (Nat.lt_of_lt_of_le hb'.2 hh)
 · exact h.frame fun b hb'=>hb.block b (Nat.lt_of_lt_of_le hb'.2 hh)
 · obtain ⟨gx,e,h1,h2,h3⟩:=h
   exact ⟨gx,e,h1.next hb,h2,h3⟩
def TwMid (wr : World) (g : FlTy.T) (gf : Nat) (src : Array Value) (s6 : Value) (wx : World) : Prop:=∃ (gx : Nat) (A4 : Option Addr) (c4 : Nat) (A7 : Option Addr) (c7 : Nat) (A10 : Option Addr) (c10 : Nat) (T : Nat → Prop),s6 = .pointer (some ⟨gx,0,none⟩) ∧ BoxOf wx gf src 67 ∧ BoxOf wx gx #[.int .i64 (fN g),.int .u8 (kI g),.int .i64 (fA g),.int .i64 (fM g),.slice A4 (fD g).length c4,.slice A7 (fS g).length c7,.slice A10 (fQ g).length c10,.slice none 0 0] 67 ∧ Below wr.heap.size wr wx ∧ TwB wx wr.heap.size g (.slice A4 (fD g).length c4) (.slice A7 (fS g).length c7) (.slice A10 (fQ g).length c10) (.slice none 0 0) [] 0 T ∧ (∀ b,T b → b ≠ gx) ∧ wr.heap.size ≤ gx ∧ gf ≠ gx
set_option maxRecDepth 100000 in
set_option maxHeartbeats 8000000 in
theorem rftwin24_any (S : Nat → Prop) (fs : List FlTy.T) (N d : Nat) (B : Option Addr) (hN : fs.length = N) (w : World) (hr : RdIn w S (.sl FlTy) fs [.slice B N d]) :
 Calls Try.prog 9 #[.slice B N d] w fun e w'=>(∃ v,e = .returned v ∧ FlNew w.heap.size fs v w') ∧ Below w.heap.size w w':=by
 obtain ⟨ig,hig,hg0,hg1,hg2⟩:=minfo_flight
 obtain ⟨iu,hu,hu0,hu1,hu2⟩:=minfo_u8
 obtain ⟨iq,hq,hq0,hq1,hq2⟩:=minfo_u32
 obtain ⟨ib,hib,hb0,hb1,hb2⟩:=minfo_bytes
 have HR:=Lib.hid hr
 have HNM : Hid (N ≤ maxLen):=by have:=fl_max hr;show N ≤ maxLen;omega
 have HNZ : Hid (N * 128 ≤ 140737488355328):=by
  obtain ⟨_,_,_,_,h1,_⟩:=viewF hr
  rw [hN] at h1
  exact h1
 have HNL:=Lib.hid hN
 clear hr hN
 go_enter Try.func9,Try.ntmps9
 go_upto_region 1 with fail
 obtain ⟨W,hW⟩ : ∃ z : World,z = w:=⟨_,rfl⟩
 have b0 : Below W.heap.size W w:=by rw [hW];exact Below.refl _ _
 have HWW:=Lib.hid hW
 rw [← hW] at HR
 clear hW
 go_wp2
 go_loopw [3,4] (fun v i wr=>∃ (k : Nat),k ≤ N ∧ i = .int .i64 (k : Int) ∧ Below W.heap.size W wr ∧ Hid (FlNew W.heap.size (fs.take k) v wr)) (fun _ i _=>N - (intOf i).toNat)
 case atStart=>exact ⟨0,by omega,rfl,b0,OwnE.nil _ _ _ _ _⟩
 case round=>
  as_aux_lemma=>
  obtain ⟨k,hk,rfl,b1,O1⟩:=hrel
  clear b0
  have bw : Below w.heap.size w wr:=by have:=HWW.out;subst this;exact b1
  by_cases hlt : k < N
  · have hlf : k < fs.length:=by have:=HNL.out;omega
    obtain ⟨b,off,Ab,cb,As,cs,Aq,cq,Ax,cx,rfl,q0,q1,q2,q3,q4,q5,q6,q7,hi,r1,r2,r3,r4⟩:=fl_at (HR.out.below b1) hlf
    have HST:=Lib.hid (show fs.take (k + 1) = fs.take k ++ [fs[k]] from List.take_succ_eq_append_getElem hlf)
    generalize fs[k] = g at *
    have HWJ:=next_wrap HNM.out hlt
    have HLJ:=Lib.hid hlt
    have HI:=Lib.hid hi
    have HSM:=Lib.hid (sq_small r3)
    have HZ : Hid ((fS g).length ≤ 140737488355328 ∧ (fQ g).length * 4 ≤ 140737488355328 ∧ (fB g).length * 24 ≤ 140737488355328):=by
     obtain ⟨_,_,_,_,_,h1,_⟩:=rdin_sl.1 r2
     obtain ⟨_,_,_,_,_,h2,_⟩:=rdin_sl.1 r3
     obtain ⟨_,_,_,_,_,h3,_⟩:=rdin_sl.1 r4
     refine ⟨?_,h2,h3⟩
     have h4 : (fS g).length * 1 ≤ 140737488355328:=h1
     omega
    have HMS : Hid ((fS g).length ≤ maxLen ∧ (fQ g).length ≤ maxLen ∧ (fB g).length ≤ maxLen):=⟨byte_max r2,seq_max r3,val_max r4⟩
    have HRQ : Hid (∀ w',Below wr.heap.size wr w' → Rd w' Aq ((fQ g).map seqV)):=fun w' bb=>(RdIn.row (e:=.u32) rfl (r3.below bb)).2
    have HR4 : Hid (∀ w',Below wr.heap.size wr w' → RdIn w' S (.sl (.sl .byte)) (fB g) [.slice Ax (fB g).length cx]):=fun w' bb=>r4.below bb
    obtain ⟨m,hm⟩ : ∃ m : Nat,m = (fB g).length:=⟨_,rfl⟩
    have HM:=Lib.hid hm
    rw [← hm] at q7
    have bA:=Ext.alloc (Below.refl wr.heap.size wr) (.cells #[.int .i64 (fN g),.int .u8 (kI g),.int .i64 (fA g),.int .i64 (fM g),.slice Ab (fD g).length cb,.slice As (fS g).length cs,.slice Aq (fQ g).length cq,.slice Ax m cx] 67)
    have G0:=BoxOf.new wr #[.int .i64 (fN g),.int .u8 (kI g),.int .i64 (fA g),.int .i64 (fM g),.slice Ab (fD g).length cb,.slice As (fS g).length cs,.slice Aq (fQ g).length cq,.slice Ax m cx] 67
    clear hi hm hlf
    go_upto_region 6 with fail
    clear q0 q1 q2 q3 q4 q5 q6 q7
    obtain ⟨gf,hgf⟩ : ∃ z : Nat,z = wr.heap.size:=⟨_,rfl⟩
    have HGF:=Lib.hid hgf
    rw [← hgf] at G0 ⊢
    generalize wr.alloc (.cells #[.int .i64 (fN g),.int .u8 (kI g),.int .i64 (fA g),.int .i64 (fM g),.slice Ab (fD g).length cb,.slice As (fS g).length cs,.slice Aq (fQ g).length cq,.slice Ax m cx] 67) = wA at *
    clear hgf r4
    go_cut [6] (fun s6 wx=>TwMid wr g gf #[.int .i64 (fN g),.int .u8 (kI g),.int .i64 (fA g),.int .i64 (fM g),.slice Ab (fD g).length cb,.slice As (fS g).length cs,.slice Aq (fQ g).length cq,.slice Ax m cx] s6 wx)
    case first=>
     as_aux_lemma=>
     have bc:=Ext.drew bA
     have G5:=G0.drew
     refine wp_region_G (S:=fun w'=>∀ o,w'.cell? ⟨gf,o,none⟩ = (#[.int .i64 (fN g),.int .u8 (kI g),.int .i64 (fA g),.int .i64 (fM g),.slice Ab (fD g).length cb,.slice As (fS g).length cs,.slice Aq (fQ g).length cq,.slice Ax m cx] : Array Value).toList[o]?) (by kernel_rfl) G5.cell (fun hS=>?_)
     generalize wA.drew = vd at *
     clear bA G0
     refine wpAnyG.take (i:=0) (o:=_) (v:=?_) rfl (by kernel_rfl) (by kernel_rfl) (by kernel_rfl) (fun _ _ _ h=>h) (Or.inl ⟨by rfl,?_⟩) hS ?_
     rotate_left
     · (intro w hSw;(try dsimp only at hSw);go_simp;(try with_reducible rfl))
     rotate_left
     simp only [Act.put,zq0,zq1,zq2,zq3,zq4,zq5]
     refine wpAnyG.take (i:=1) (o:=_) (v:=?_) rfl (by kernel_rfl) (by kernel_rfl) (by kernel_rfl) (fun _ _ _ h=>h) (Or.inl ⟨by rfl,?_⟩) hS ?_
     rotate_left
     · (intro w hSw;(try dsimp only at hSw);go_simp;(try with_reducible rfl))
     rotate_left
     simp only [Act.put,zq0,zq1,zq2,zq3,zq4,zq5]
     refine wpAnyG.take (i:=2) (o:=_) (v:=?_) rfl (by kernel_rfl) (by kernel_rfl) (by kernel_rfl) (fun _ _ _ h=>h) (Or.inl ⟨by rfl,?_⟩) hS ?_
     rotate_left
     · (intro w hSw;(try dsimp only at hSw);go_simp;(try with_reducible rfl))
     rotate_left
     simp only [Act.put,zq0,zq1,zq2,zq3,zq4,zq5]
     refine wpAnyG.take (i:=3) (o:=_) (v:=?_) rfl (by kernel_rfl) (by kernel_rfl) (by kernel_rfl) (fun _ _ _ h=>h) (Or.inl ⟨by rfl,?_⟩) hS ?_
     rotate_left
     · (intro w hSw;(try dsimp only at hSw);go_simp;(try with_reducible rfl))
     rotate_left
     simp only [Act.put,zq0,zq1,zq2,zq3,zq4,zq5]
     refine wpAnyG.take (i:=5) (o:=_) (v:=?_) rfl (by kernel_rfl) (by kernel_rfl) (by kernel_rfl) (fun _ _ _ h=>h) (Or.inl ⟨by rfl,?_⟩) hS ?_
     rotate_left
     · (intro w hSw;(try dsimp only at hSw);go_simp;(try with_reducible rfl))
     rotate_left
     simp only [Act.put,zq0,zq1,zq2,zq3,zq4,zq5]
     refine wpAnyG.take (i:=6) (o:=_) (v:=?_) rfl (by kernel_rfl) (by kernel_rfl) (by kernel_rfl) (fun _ _ _ h=>h) (Or.inl ⟨by rfl,?_⟩) hS ?_
     rotate_left
     · (intro w hSw;(try dsimp only at hSw);go_simp;(try with_reducible rfl))
     rotate_left
     simp only [Act.put,zq0,zq1,zq2,zq3,zq4,zq5]
     refine wpAnyG.take (i:=8) (o:=_) (v:=?_) rfl (by kernel_rfl) (by kernel_rfl) (by kernel_rfl) (fun _ _ _ h=>h) (Or.inl ⟨by rfl,?_⟩) hS ?_
     rotate_left
     · (intro w hSw;(try dsimp only at hSw);go_simp;(try with_reducible rfl))
     rotate_left
     simp only [Act.put,zq0,zq1,zq2,zq3,zq4,zq5]
     refine wpAnyG.take (i:=9) (o:=_) (v:=?_) rfl (by kernel_rfl) (by kernel_rfl) (by kernel_rfl) (fun _ _ _ h=>h) (Or.inl ⟨by rfl,?_⟩) hS ?_
     rotate_left
     · (intro w hSw;(try dsimp only at hSw);go_simp;(try with_reducible rfl))
     rotate_left
     simp only [Act.put,zq0,zq1,zq2,zq3,zq4,zq5]
     refine wpAnyG.loose [4,7,10] [12] [(4,22),(7,25),(10,28),(12,6)] (TwR g) (by kernel_rfl) (fun w' hb=>(G5.next hb).cell) (loose_cons ?_ (loose_cons ?_ (loose_cons ?_ (loose_cons ?_ loose_nil)))) ?_
     · refine LooseAt.mk _ 22 rfl rfl (by kernel_rfl) (by kernel_rfl) (fun w4 bb K hK=>?_) TwR.keep
       go_simp
       refine (rasktwin_any S (fK g) (fA g) (fM g) (fD g) Ab cb w4 (r1.below (Ext.trans bc bb))).mono ?_
       rintro e w5 ⟨A4,c4,rfl,rd4,b5⟩
       exact hK.out (.agg #[.int .u8 (kI g),.int .i64 (fA g),.int .i64 (fM g),.slice A4 (fD g).length c4]) _ b5 ⟨A4,c4,rfl,rd4.mono fun b hb=>⟨⟨hb.1,hb.2.1⟩,hb.2.2⟩⟩
     · refine LooseAt.mk _ 25 rfl rfl (by kernel_rfl) (by kernel_rfl) (fun w4 bb K hK=>?_) TwR.keep
       refine wp_append_rd w4 (.const (.slice none 0 0)) (.tmp 24) 26 rfl w4.heap.size 5 iu (.int .u8 0) 1 1 Try.underlying26 hu hu0 hu1 hu2 rfl (by decide) _ 0 [] rfl ⟨rfl,.inl ⟨rfl,rfl⟩⟩ As (fS g).length cs ((fS g).map byteV) rfl (by simp) ((r2.below (Ext.trans bc bb)).bytes_bs.2) (byteV_one _) (by have:=HMS.out.1;omega) (by have:=HZ.out.1;omega) (Nat.le_refl _) ?_
       intro v7 w7 O7a gr k7
       rw [Nat.zero_add,List.nil_append] at O7a
       exact hK.out v7 w7 (Below.grown (Below.refl _ _) gr (Nat.le_refl _) (fun k hk=>by cases hk)) (NumRow.of_own O7a (Nat.le_refl _) (Nat.le_refl _))
     · refine LooseAt.mk _ 28 rfl rfl (by kernel_rfl) (by kernel_rfl) (fun w4 bb K hK=>?_) TwR.keep
       refine wp_append_rd w4 (.const (.slice none 0 0)) (.tmp 27) 64 rfl w4.heap.size 22 iq (.int .u32 0) 1 4 Try.underlying64 hq hq0 hq1 hq2 rfl (by decide) _ 0 [] rfl ⟨rfl,.inl ⟨rfl,rfl⟩⟩ Aq (fQ g).length cq ((fQ g).map seqV) rfl (by simp) (HRQ.out _ (Ext.trans bc bb)) (seqV_one _) (by have:=HMS.out.2.1;omega) (by have:=HZ.out.2.1;omega) (Nat.le_refl _) ?_
       intro v7 w7 O7a gr k7
       rw [Nat.zero_add,List.nil_append] at O7a
       exact hK.out v7 w7 (Below.grown (Below.refl _ _) gr (Nat.le_refl _) (fun k hk=>by cases hk)) (NumRow.of_own O7a (Nat.le_refl _) (Nat.le_refl _))
     · refine LooseAt.mk _ 6 rfl rfl (by kernel_rfl) (by kernel_rfl) (fun w4 bb K hK=>?_) TwR.keep
       go_simp
       exact hK.out (.pointer (some ⟨w4.heap.size,0,none⟩)) _ (Ext.alloc (Below.refl _ _) _) ⟨w4.heap.size,rfl,BoxOf.new w4 #[.int .i64 0,.int .u8 0,.int .i64 0,.int .i64 0,.slice none 0 0,.slice none 0 0,.slice none 0 0,.slice none 0 0] 67,Nat.le_refl _,BoxOf.lt (BoxOf.new w4 #[.int .i64 0,.int .u8 0,.int .i64 0,.int .i64 0,.slice none 0 0,.slice none 0 0,.slice none 0 0,.slice none 0 0] 67)⟩
     intro done f lo hi w5 hc hb hR hD fuel hf
     have d4:=hc 4 (by decide)
     have d7:=hc 7 (by decide)
     have d10:=hc 10 (by decide)
     obtain ⟨⟨A4,c4,e4,RD⟩,l4,m4,n4⟩:=hR 4 (by decide) d4
     obtain ⟨O7,l7,m7,n7⟩:=hR 7 (by decide) d7
     obtain ⟨OS,l10,m10,n10⟩:=hR 10 (by decide) d10
     obtain ⟨A7,c7,e7⟩:=NumRow.slice O7
     obtain ⟨A10,c10,e10⟩:=NumRow.slice OS
     rw [List.length_map] at e7 e10
     have bvw:=bc.size
     have D47:=hD 4 (by decide) 7 (by decide) (by decide) d4 d7
     have D410:=hD 4 (by decide) 10 (by decide) (by decide) d4 d10
     have D412:=fun h=>hD 4 (by decide) 12 (by decide) (by decide) d4 h
     have R12:=hR 12 (by decide)
     obtain ⟨t1,ht1⟩ : ∃ z,z = lo 4:=⟨_,rfl⟩
     obtain ⟨t2,ht2⟩ : ∃ z,z = hi 4:=⟨_,rfl⟩
     rw [← ht1] at RD l4 m4 D47 D410 D412
     rw [← ht2] at RD m4 n4 D47 D410 D412
     obtain ⟨p7,hp7⟩ : ∃ z,z = lo 7:=⟨_,rfl⟩
     obtain ⟨u7,hu7⟩ : ∃ z,z = hi 7:=⟨_,rfl⟩
     rw [← hp7] at O7 l7 m7 D47
     rw [← hu7] at O7 m7 n7 D47
     obtain ⟨p10,hp10⟩ : ∃ z,z = lo 10:=⟨_,rfl⟩
     obtain ⟨u10,hu10⟩ : ∃ z,z = hi 10:=⟨_,rfl⟩
     rw [← hp10] at OS l10 m10 D410
     rw [← hu10] at OS m10 n10 D410
     have HO7 : Hid (∀ b,(f 7).ownBlock = some b → Iv p7 u7 b):=fun b hb=>by
      obtain ⟨_,_,e,_,_,h6,_⟩:=O7
      exact h6 b hb
     have HO10 : Hid (∀ b,(f 10).ownBlock = some b → Iv p10 u10 b):=fun b hb=>by
      obtain ⟨_,_,e,_,_,h6,_⟩:=OS
      exact h6 b hb
     rw [e7] at O7 HO7
     rw [e10] at OS HO10
     have hcs7 : True:=trivial
     have bw5:=Ext.trans bc hb
     have G8:=G5.next hb
     have hgfl:=G5.lt
     have H4T:=Lib.hid n4
     have H4 : Hid (wr.heap.size ≤ t1 ∧ t1 ≤ t2):=⟨Nat.le_trans bvw l4,m4⟩
     have H7 : Hid (wr.heap.size ≤ p7 ∧ u7 ≤ w5.heap.size):=⟨Nat.le_trans bvw l7,n7⟩
     have H10 : Hid (wr.heap.size ≤ p10 ∧ u10 ≤ w5.heap.size):=⟨Nat.le_trans bvw l10,n10⟩
     have H47 : Hid ((t2 ≤ p7 ∨ u7 ≤ t1) ∧ (t2 ≤ p10 ∨ u10 ≤ t1)):=⟨D47,D410⟩
     have hS:=G8.cell
     cases hd12 : done 12 with
     | false=>
       have hfu : fuel = 3:=by
        simp [d4,d7,d10,hd12] at hf
        omega
       subst hfu
       simp only [looseL,looseP,List.foldl_cons,List.foldl_nil,List.cons_append,List.nil_append,d4,d7,d10,hd12,if_true,if_false,Bool.false_eq_true,e4,e7,e10]
       clear hR hD hf hc e4 e7 e10 d4 d7 d10 hd12 D47 D410 D412 R12 ht1 ht2 hp7 hu7 hp10 hu10
       try simp only [Act.put,zq0,zq1,zq2,zq3,zq4,zq5]
       refine wpAnyG.take (i:=11) (o:=_) (v:=.agg #[.int .i64 (fN g),.int .u8 (kI g),.int .i64 (fA g),.int .i64 (fM g),.slice A4 (fD g).length c4,.slice A7 (fS g).length c7,.slice A10 (fQ g).length c10,.slice none 0 0]) rfl (by kernel_rfl) (by kernel_rfl) (by kernel_rfl) (fun _ _ _ h=>h) (Or.inl ⟨by rfl,?_⟩) hS ?_
       · intro w hSw
         have hbf:=run_build w 67 #[(0,.int .i64 (fN g)),(1,.agg #[.int .u8 (kI g),.int .i64 (fA g),.int .i64 (fM g),.slice A4 (fD g).length c4]),(2,.slice A7 (fS g).length c7),(3,.slice A10 (fQ g).length c10)] _ (built_fl (fN g) (kI g) (fA g) (fM g) A4 A7 A10 (fD g).length (fS g).length (fQ g).length c4 c7 c10)
         clear hSw
         simp only [List.getElem_toArray,List.getElem_cons_zero,List.getElem_cons_succ,execOp,Sem.run_bind,List.map_toArray,List.map_cons,List.map_nil,Act.eval,Array.getD_eq_getD_getElem?,List.getElem?_toArray,List.getElem?_cons_succ,List.getElem?_cons_zero,Option.getD_some]
         rw [hbf]
         rfl
       try simp only [Act.put,zq0,zq1,zq2,zq3,zq4,zq5]
       refine wpAnyG.next (rs:=[12]) (by kernel_rfl) (by simp) ?_
       refine NextG.cons rfl (fun K hK=>?_) NextG.nil
       rw [if_pos (by rfl)]
       go_simp
       have bb:=Ext.alloc (Below.refl w5.heap.size w5) (.cells #[.int .i64 0,.int .u8 0,.int .i64 0,.int .i64 0,.slice none 0 0,.slice none 0 0,.slice none 0 0,.slice none 0 0] 67)
       have BXa:=BoxOf.new w5 #[.int .i64 0,.int .u8 0,.int .i64 0,.int .i64 0,.slice none 0 0,.slice none 0 0,.slice none 0 0,.slice none 0 0] 67
       obtain ⟨gx,hgx⟩ : ∃ z : Nat,z = w5.heap.size:=⟨_,rfl⟩
       have G9:=G8.next bb
       have RDa : RdIn (w5.alloc (.cells #[.int .i64 0,.int .u8 0,.int .i64 0,.int .i64 0,.slice none 0 0,.slice none 0 0,.slice none 0 0,.slice none 0 0] 67)) (InL _ t1 t2) (.sl .byte) (fD g) [.slice A4 (fD g).length c4]:=(RD.below bb).mono fun b hb=>⟨hb.1,hb.2.below bb⟩
       have O7a : NumRow (w5.alloc (.cells #[.int .i64 0,.int .u8 0,.int .i64 0,.int .i64 0,.slice none 0 0,.slice none 0 0,.slice none 0 0,.slice none 0 0] 67)) _ _ _ _:=O7.frame fun b hb=>bb.block b (Nat.lt_of_lt_of_le hb.2 H7.out.2)
       have OSa : NumRow (w5.alloc (.cells #[.int .i64 0,.int .u8 0,.int .i64 0,.int .i64 0,.slice none 0 0,.slice none 0 0,.slice none 0 0,.slice none 0 0] 67)) _ _ _ _:=OS.frame fun b hb=>bb.block b (Nat.lt_of_lt_of_le hb.2 H10.out.2)
       have bw6:=Ext.trans bw5 bb
       have H7a : Hid (wr.heap.size ≤ p7 ∧ u7 ≤ (w5.alloc (.cells #[.int .i64 0,.int .u8 0,.int .i64 0,.int .i64 0,.slice none 0 0,.slice none 0 0,.slice none 0 0,.slice none 0 0] 67)).heap.size):=⟨H7.out.1,Nat.le_trans H7.out.2 bb.size⟩
       have H10a : Hid (wr.heap.size ≤ p10 ∧ u10 ≤ (w5.alloc (.cells #[.int .i64 0,.int .u8 0,.int .i64 0,.int .i64 0,.slice none 0 0,.slice none 0 0,.slice none 0 0,.slice none 0 0] 67)).heap.size):=⟨H10.out.1,Nat.le_trans H10.out.2 bb.size⟩
       have H4Ta : Hid (t2 ≤ (w5.alloc (.cells #[.int .i64 0,.int .u8 0,.int .i64 0,.int .i64 0,.slice none 0 0,.slice none 0 0,.slice none 0 0,.slice none 0 0] 67)).heap.size):=Nat.le_trans H4T.out bb.size
       have HNE : Hid (gf ≠ gx):=by have:=G8.lt;show gf ≠ gx;omega
       have HGL : Hid (wr.heap.size ≤ gx):=by have:=bw5.size;show _ ≤ _;omega
       have HGT : Hid (∀ b,Iv t1 t2 b → b ≠ gx):=fun b hb9=>by have h1:=hb9.2;have h2:=H4T.out;omega
       rw [← hgx] at BXa ⊢
       refine hK.out _ _ (fun _=>G9.cell) (fun hS'=>?_)
       clear hK K hS hS' bw5 H7 H10 H4T O7 OS RD G8 hgx bb
       have hS:=G9.cell
       try simp only [Act.put,zq0,zq1,zq2,zq3,zq4,zq5]
       have H7:=H7a
       have H10:=H10a
       have H4T:=H4Ta
       have O7:=O7a
       have OS:=OSa
       have RD:=RDa
       have G8:=G9
       have BX:=BXa
       have bw5:=bw6
       clear H7a H10a H4Ta O7a OSa RDa G9 BXa bw6
       generalize w5.alloc (.cells #[.int .i64 0,.int .u8 0,.int .i64 0,.int .i64 0,.slice none 0 0,.slice none 0 0,.slice none 0 0,.slice none 0 0] 67) = w6 at *
       refine wpAnyG.next (rs:=[13]) (by kernel_rfl) (by simp) ?_
       refine NextG.last rfl (by kernel_rfl) (fun K hK=>?_) NextG.nil
       rw [if_pos (by rfl)]
       refine wp_store_row 67 (.tmp 6) (.tmp 29) rfl gx #[.int .i64 (fN g),.int .u8 (kI g),.int .i64 (fA g),.int .i64 (fM g),.slice A4 (fD g).length c4,.slice A7 (fS g).length c7,.slice A10 (fQ g).length c10,.slice none 0 0] rfl rfl 67 #[.int .i64 0,.int .u8 0,.int .i64 0,.int .i64 0,.slice none 0 0,.slice none 0 0,.slice none 0 0,.slice none 0 0] BX (by kernel_rfl) rfl (by rw [← Array.all_toList];rfl) ?_
       have G6:=G8.other HNE.out #[.int .i64 (fN g),.int .u8 (kI g),.int .i64 (fA g),.int .i64 (fM g),.slice A4 (fD g).length c4,.slice A7 (fS g).length c7,.slice A10 (fQ g).length c10,.slice none 0 0]
       have BX6:=BX.set #[.int .i64 (fN g),.int .u8 (kI g),.int .i64 (fA g),.int .i64 (fM g),.slice A4 (fD g).length c4,.slice A7 (fS g).length c7,.slice A10 (fQ g).length c10,.slice none 0 0]
       have RD6 : RdIn ((w6).setRow gx #[.int .i64 (fN g),.int .u8 (kI g),.int .i64 (fA g),.int .i64 (fM g),.slice A4 (fD g).length c4,.slice A7 (fS g).length c7,.slice A10 (fQ g).length c10,.slice none 0 0]) (InL ((w6).setRow gx #[.int .i64 (fN g),.int .u8 (kI g),.int .i64 (fA g),.int .i64 (fM g),.slice A4 (fD g).length c4,.slice A7 (fS g).length c7,.slice A10 (fQ g).length c10,.slice none 0 0]) t1 t2) (.sl .byte) (fD g) [.slice A4 (fD g).length c4]:=(RD.frame fun b hb=>setRow_other _ _ _ _ (HGT.out b hb.1)).mono fun b hb=>⟨hb.1,by
        obtain ⟨cs9,t9,h9⟩:=hb.2
        exact ⟨cs9,t9,by rw [setRow_other _ _ _ _ (HGT.out b hb.1)];exact h9⟩⟩
       have O76:=NumRow.set_row (O7.mono (F':=Iv wr.heap.size (w6).heap.size) (fun b hb=>⟨Nat.le_trans H7.out.1 hb.1,Nat.lt_of_lt_of_le hb.2 H7.out.2⟩)) BX (by decide) #[.int .i64 (fN g),.int .u8 (kI g),.int .i64 (fA g),.int .i64 (fM g),.slice A4 (fD g).length c4,.slice A7 (fS g).length c7,.slice A10 (fQ g).length c10,.slice none 0 0]
       have OS6:=NumRow.set_row (OS.mono (F':=Iv wr.heap.size (w6).heap.size) (fun b hb=>⟨Nat.le_trans H10.out.1 hb.1,Nat.lt_of_lt_of_le hb.2 H10.out.2⟩)) BX (by decide) #[.int .i64 (fN g),.int .u8 (kI g),.int .i64 (fA g),.int .i64 (fM g),.slice A4 (fD g).length c4,.slice A7 (fS g).length c7,.slice A10 (fQ g).length c10,.slice none 0 0]
       have bc6:=Ext.setRow bw5 HGL.out #[.int .i64 (fN g),.int .u8 (kI g),.int .i64 (fA g),.int .i64 (fM g),.slice A4 (fD g).length c4,.slice A7 (fS g).length c7,.slice A10 (fQ g).length c10,.slice none 0 0]
       refine hK.out _ _ ?_
       clear hK K
       try simp only [Act.put,zq0,zq1,zq2,zq3,zq4,zq5]
       have HSZ : Hid ((w6).heap.size = ((w6).setRow gx #[.int .i64 (fN g),.int .u8 (kI g),.int .i64 (fA g),.int .i64 (fM g),.slice A4 (fD g).length c4,.slice A7 (fS g).length c7,.slice A10 (fQ g).length c10,.slice none 0 0]).heap.size):=(setRow_size _ _ _).symm
       generalize (w6).setRow gx #[.int .i64 (fN g),.int .u8 (kI g),.int .i64 (fA g),.int .i64 (fM g),.slice A4 (fD g).length c4,.slice A7 (fS g).length c7,.slice A10 (fQ g).length c10,.slice none 0 0] = vs at *
       refine wpAnyG.done (by kernel_rfl) ?_ _
       have TB : Hid (TwB vs wr.heap.size g (.slice A4 (fD g).length c4) (.slice A7 (fS g).length c7) (.slice A10 (fQ g).length c10) (.slice none 0 0) [] 0 (InL vs t1 t2)):={
        st:=O76
        sq:=OS6
        row:=⟨rfl,.inl ⟨rfl,rfl⟩⟩
        dat:=RD6
        each:=fun i h=>absurd h (by simp)
        byt:=fun b hb=>by
         have h1:=hb.1.1
         have h2:=hb.1.2
         have h4:=H4.out.1
         have h5:=H7.out
         have h6:=H10.out
         have h7:=H47.out
         have h8:=H4T.out
         refine ⟨⟨by omega,hb.2.lt⟩,hb.2,fun e=>?_,fun e=>?_,fun e=>by cases e⟩
         · have h9:=HO7.out b e
           have h91:=h9.1
           have h92:=h9.2
           omega
         · have h9:=HO10.out b e
           have h91:=h9.1
           have h92:=h9.2
           omega }
       have HG6:=Lib.hid G6
       have HBX6:=Lib.hid BX6
       have HBC6:=Lib.hid bc6
       clear G6 BX6 bc6 RD6 O76 OS6 r1 r2 r3 b1 bw hcs7
       go_wp2_with fail
       go_meet
       exact ⟨gx,A4,c4,A7,c7,A10,c10,_,rfl,HG6.out,HBX6.out,HBC6.out,TB.out,(fun b hb=>HGT.out b hb.1),HGL.out,(fun e=>HNE.out e)⟩
     | true=>
       have hfu : fuel = 2:=by
        simp [d4,d7,d10,hd12] at hf
        omega
       subst hfu
       obtain ⟨⟨gx,e12,BX,k12,k12'⟩,l12,m12,n12⟩:=R12 hd12
       have D412':=D412 hd12
       simp only [looseL,looseP,List.foldl_cons,List.foldl_nil,List.cons_append,List.nil_append,d4,d7,d10,hd12,if_true,if_false,Bool.false_eq_true,e4,e7,e10,e12]
       have HNE : Hid (gf ≠ gx):=by show gf ≠ gx;omega
       have HGL : Hid (wr.heap.size ≤ gx):=by show _ ≤ _;omega
       have HGT : Hid (∀ b,Iv t1 t2 b → b ≠ gx):=fun b hb9=>by have h1:=hb9.1;have h2:=hb9.2;omega
       clear hR hD hf hc e4 e7 e10 e12 d4 d7 d10 hd12 D47 D410 D412 D412' R12 ht1 ht2 hp7 hu7 hp10 hu10 k12 k12' l12 m12 n12
       try simp only [Act.put,zq0,zq1,zq2,zq3,zq4,zq5]
       refine wpAnyG.take (i:=11) (o:=_) (v:=.agg #[.int .i64 (fN g),.int .u8 (kI g),.int .i64 (fA g),.int .i64 (fM g),.slice A4 (fD g).length c4,.slice A7 (fS g).length c7,.slice A10 (fQ g).length c10,.slice none 0 0]) rfl (by kernel_rfl) (by kernel_rfl) (by kernel_rfl) (fun _ _ _ h=>h) (Or.inl ⟨by rfl,?_⟩) hS ?_
       · intro w hSw
         have hbf:=run_build w 67 #[(0,.int .i64 (fN g)),(1,.agg #[.int .u8 (kI g),.int .i64 (fA g),.int .i64 (fM g),.slice A4 (fD g).length c4]),(2,.slice A7 (fS g).length c7),(3,.slice A10 (fQ g).length c10)] _ (built_fl (fN g) (kI g) (fA g) (fM g) A4 A7 A10 (fD g).length (fS g).length (fQ g).length c4 c7 c10)
         clear hSw
         simp only [List.getElem_toArray,List.getElem_cons_zero,List.getElem_cons_succ,execOp,Sem.run_bind,List.map_toArray,List.map_cons,List.map_nil,Act.eval,Array.getD_eq_getD_getElem?,List.getElem?_toArray,List.getElem?_cons_succ,List.getElem?_cons_zero,Option.getD_some]
         rw [hbf]
         rfl
       try simp only [Act.put,zq0,zq1,zq2,zq3,zq4,zq5]
       refine wpAnyG.next (rs:=[13]) (by kernel_rfl) (by simp) ?_
       refine NextG.last rfl (by kernel_rfl) (fun K hK=>?_) NextG.nil
       rw [if_pos (by rfl)]
       refine wp_store_row 67 (.tmp 6) (.tmp 29) rfl gx #[.int .i64 (fN g),.int .u8 (kI g),.int .i64 (fA g),.int .i64 (fM g),.slice A4 (fD g).length c4,.slice A7 (fS g).length c7,.slice A10 (fQ g).length c10,.slice none 0 0] rfl rfl 67 #[.int .i64 0,.int .u8 0,.int .i64 0,.int .i64 0,.slice none 0 0,.slice none 0 0,.slice none 0 0,.slice none 0 0] BX (by kernel_rfl) rfl (by rw [← Array.all_toList];rfl) ?_
       have G6:=G8.other HNE.out #[.int .i64 (fN g),.int .u8 (kI g),.int .i64 (fA g),.int .i64 (fM g),.slice A4 (fD g).length c4,.slice A7 (fS g).length c7,.slice A10 (fQ g).length c10,.slice none 0 0]
       have BX6:=BX.set #[.int .i64 (fN g),.int .u8 (kI g),.int .i64 (fA g),.int .i64 (fM g),.slice A4 (fD g).length c4,.slice A7 (fS g).length c7,.slice A10 (fQ g).length c10,.slice none 0 0]
       have RD6 : RdIn ((w5).setRow gx #[.int .i64 (fN g),.int .u8 (kI g),.int .i64 (fA g),.int .i64 (fM g),.slice A4 (fD g).length c4,.slice A7 (fS g).length c7,.slice A10 (fQ g).length c10,.slice none 0 0]) (InL ((w5).setRow gx #[.int .i64 (fN g),.int .u8 (kI g),.int .i64 (fA g),.int .i64 (fM g),.slice A4 (fD g).length c4,.slice A7 (fS g).length c7,.slice A10 (fQ g).length c10,.slice none 0 0]) t1 t2) (.sl .byte) (fD g) [.slice A4 (fD g).length c4]:=(RD.frame fun b hb=>setRow_other _ _ _ _ (HGT.out b hb.1)).mono fun b hb=>⟨hb.1,by
        obtain ⟨cs9,t9,h9⟩:=hb.2
        exact ⟨cs9,t9,by rw [setRow_other _ _ _ _ (HGT.out b hb.1)];exact h9⟩⟩
       have O76:=NumRow.set_row (O7.mono (F':=Iv wr.heap.size (w5).heap.size) (fun b hb=>⟨Nat.le_trans H7.out.1 hb.1,Nat.lt_of_lt_of_le hb.2 H7.out.2⟩)) BX (by decide) #[.int .i64 (fN g),.int .u8 (kI g),.int .i64 (fA g),.int .i64 (fM g),.slice A4 (fD g).length c4,.slice A7 (fS g).length c7,.slice A10 (fQ g).length c10,.slice none 0 0]
       have OS6:=NumRow.set_row (OS.mono (F':=Iv wr.heap.size (w5).heap.size) (fun b hb=>⟨Nat.le_trans H10.out.1 hb.1,Nat.lt_of_lt_of_le hb.2 H10.out.2⟩)) BX (by decide) #[.int .i64 (fN g),.int .u8 (kI g),.int .i64 (fA g),.int .i64 (fM g),.slice A4 (fD g).length c4,.slice A7 (fS g).length c7,.slice A10 (fQ g).length c10,.slice none 0 0]
       have bc6:=Ext.setRow bw5 HGL.out #[.int .i64 (fN g),.int .u8 (kI g),.int .i64 (fA g),.int .i64 (fM g),.slice A4 (fD g).length c4,.slice A7 (fS g).length c7,.slice A10 (fQ g).length c10,.slice none 0 0]
       refine hK.out _ _ ?_
       clear hK K
       try simp only [Act.put,zq0,zq1,zq2,zq3,zq4,zq5]
       have HSZ : Hid ((w5).heap.size = ((w5).setRow gx #[.int .i64 (fN g),.int .u8 (kI g),.int .i64 (fA g),.int .i64 (fM g),.slice A4 (fD g).length c4,.slice A7 (fS g).length c7,.slice A10 (fQ g).length c10,.slice none 0 0]).heap.size):=(setRow_size _ _ _).symm
       generalize (w5).setRow gx #[.int .i64 (fN g),.int .u8 (kI g),.int .i64 (fA g),.int .i64 (fM g),.slice A4 (fD g).length c4,.slice A7 (fS g).length c7,.slice A10 (fQ g).length c10,.slice none 0 0] = vs at *
       refine wpAnyG.done (by kernel_rfl) ?_ _
       have TB : Hid (TwB vs wr.heap.size g (.slice A4 (fD g).length c4) (.slice A7 (fS g).length c7) (.slice A10 (fQ g).length c10) (.slice none 0 0) [] 0 (InL vs t1 t2)):={
        st:=O76
        sq:=OS6
        row:=⟨rfl,.inl ⟨rfl,rfl⟩⟩
        dat:=RD6
        each:=fun i h=>absurd h (by simp)
        byt:=fun b hb=>by
         have h1:=hb.1.1
         have h2:=hb.1.2
         have h4:=H4.out.1
         have h5:=H7.out
         have h6:=H10.out
         have h7:=H47.out
         have h8:=H4T.out
         refine ⟨⟨by omega,hb.2.lt⟩,hb.2,fun e=>?_,fun e=>?_,fun e=>by cases e⟩
         · have h9:=HO7.out b e
           have h91:=h9.1
           have h92:=h9.2
           omega
         · have h9:=HO10.out b e
           have h91:=h9.1
           have h92:=h9.2
           omega }
       have HG6:=Lib.hid G6
       have HBX6:=Lib.hid BX6
       have HBC6:=Lib.hid bc6
       clear G6 BX6 bc6 RD6 O76 OS6 r1 r2 r3 b1 bw hcs7
       go_wp2_with fail
       go_meet
       exact ⟨gx,A4,c4,A7,c7,A10,c10,_,rfl,HG6.out,HBX6.out,HBC6.out,TB.out,(fun b hb=>HGT.out b hb.1),HGL.out,(fun e=>HNE.out e)⟩
    case rest=>
    as_aux_lemma=>
    obtain ⟨gx,A4,c4,A7,c7,A10,c10,T,rfl,G6,X6,bc,TB,HTX,hgl,hne⟩:=hcut
    have HXT:=Lib.hid HTX
    have HGL:=Lib.hid hgl
    have HNE:=Lib.hid hne
    clear HTX hgl hne bA G0 HRQ r1 r2 r3
    generalize wc = w5 at *
    obtain ⟨wo,hwo⟩ : ∃ z : World,z = wr:=⟨_,rfl⟩
    rw [← hwo] at bc TB HGL HR4
    have HWO:=Lib.hid hwo
    have HLW : Hid (W.heap.size ≤ wo.heap.size):=by rw [hwo];exact b1.size
    rw [← hwo] at O1 b1
    have b1':=Lib.hid b1
    clear hwo b1 bw
    have TB0 : TwB w5 wo.heap.size g (.slice A4 (fD g).length c4) (.slice A7 (fS g).length c7) (.slice A10 (fQ g).length c10) (.slice none 0 0) [] 0 T:=TB
    clear TB
    go_wp2
    go_loopw [7] (fun i wq=>∃ (j : Nat) (hs : List Value) (Ad : Option Addr) (cd : Nat) (T : Nat → Prop),j ≤ m ∧ i = .int .i64 (j : Int) ∧ Below wo.heap.size wo wq ∧ BoxOf wq gf #[.int .i64 (fN g),.int .u8 (kI g),.int .i64 (fA g),.int .i64 (fM g),.slice Ab (fD g).length cb,.slice As (fS g).length cs,.slice Aq (fQ g).length cq,.slice Ax m cx] 67 ∧ BoxOf wq gx #[.int .i64 (fN g),.int .u8 (kI g),.int .i64 (fA g),.int .i64 (fM g),.slice A4 (fD g).length c4,.slice A7 (fS g).length c7,.slice A10 (fQ g).length c10,.slice Ad j cd] 67 ∧ Hid (TwB wq wo.heap.size g (.slice A4 (fD g).length c4) (.slice A7 (fS g).length c7) (.slice A10 (fQ g).length c10) (.slice Ad j cd) hs j T) ∧ Hid (∀ b,T b → b ≠ gx)) (fun i _=>m - (intOf i).toNat)
    case atStart=>exact ⟨0,[],none,0,T,by omega,rfl,bc,G6,X6,TB0,HXT.out⟩
    case round=>
     as_aux_lemma=>
     obtain ⟨j,hs,Ad,cd,T',hj,rfl,b6,G7,X7,T6,HT6⟩:=hrel
     clear bc G6 X6 TB0 HXT
     by_cases hlj : j < m
     · have hjb : j < (fB g).length:=by have:=HM.out;omega
       obtain ⟨b2,o2,Ai,ci,eAx,hcell0,r50⟩:=val_at (HR4.out wo (Below.refl _ _)) hjb
       have hm9:=HM.out
       subst hm9
       subst eAx
       obtain ⟨bs,hbs⟩ : ∃ z : List UInt8,z = (fB g)[j]:=⟨_,rfl⟩
       have HBS : Hid (∀ h : j < (fB g).length,bs = (fB g)[j]):=fun _=>hbs
       rw [← hbs] at r50 hcell0
       have HCO : Hid (∀ w',Below wo.heap.size wo w' → w'.cell? ⟨b2,o2 + j,none⟩ = some (.slice Ai bs.length ci)):=fun w' bb=>(bb.cell (World.block_lt_of_cell? wo _ hcell0)).trans hcell0
       have hcell:=HCO.out _ b6
       have r5:=r50.below b6
       clear hcell0 r50
       have HWQ:=next_wrap HMS.out.2.2 hlj
       have HLQ:=Lib.hid hlj
       have x6:=G7.cell
       have x7:=X7.cell
       have HCC : Hid (∀ w',Below wr.heap.size wr w' → w'.cell? ⟨b2,o2 + j,none⟩ = some (.slice Ai bs.length ci)):=fun w' bb=>(bb.cell (World.block_lt_of_cell? wr _ hcell)).trans hcell
       have HR5:=Lib.hid r5
       clear hbs r5
       go_upto_region 10 with fail
       clear x6 x7 hcell
       have bd:=Ext.drew (Below.refl wr.heap.size wr)
       have GA:=G7.drew
       have XA:=X7.drew
       refine wp_region_G (S:=fun w'=>(∀ p,w'.cell? ⟨gf,p,none⟩ = (#[.int .i64 (fN g),.int .u8 (kI g),.int .i64 (fA g),.int .i64 (fM g),.slice Ab (fD g).length cb,.slice As (fS g).length cs,.slice Aq (fQ g).length cq,.slice (some ⟨b2,o2,none⟩) (fB g).length cx] : Array Value).toList[p]?) ∧ (∀ p,w'.cell? ⟨gx,p,none⟩ = (#[.int .i64 (fN g),.int .u8 (kI g),.int .i64 (fA g),.int .i64 (fM g),.slice A4 (fD g).length c4,.slice A7 (fS g).length c7,.slice A10 (fQ g).length c10,.slice Ad j cd] : Array Value).toList[p]?) ∧ w'.cell? ⟨b2,o2 + j,none⟩ = some (.slice Ai bs.length ci)) (by kernel_rfl) ⟨GA.cell,XA.cell,HCC.out _ bd⟩ (fun hS=>?_)
       have T7:=T6.out.next bd
       have b7:=Ext.trans b6 bd
       have HLW9 : Hid (wo.heap.size ≤ wr.heap.size):=b6.size
       generalize wr.drew = wd at *
       refine wpAnyG.take (i:=0) (o:=_) (v:=?_) rfl (by kernel_rfl) (by kernel_rfl) (by kernel_rfl) (fun _ _ _ h=>h) (Or.inl ⟨by rfl,?_⟩) hS ?_
       rotate_left
       · (intro w hSw;(try dsimp only at hSw);go_simp;(try with_reducible rfl))
       rotate_left
       simp only [Act.put,zq0,zq1,zq2,zq3,zq4,zq5]
       refine wpAnyG.take (i:=1) (o:=_) (v:=?_) rfl (by kernel_rfl) (by kernel_rfl) (by kernel_rfl) (fun _ _ _ h=>h) (Or.inl ⟨by rfl,?_⟩) hS ?_
       rotate_left
       · (intro w hSw;(try dsimp only at hSw);go_simp;(try with_reducible rfl))
       rotate_left
       simp only [Act.put,zq0,zq1,zq2,zq3,zq4,zq5]
       refine wpAnyG.take (i:=2) (o:=_) (v:=?_) rfl (by kernel_rfl) (by kernel_rfl) (by kernel_rfl) (fun _ _ _ h=>h) (Or.inl ⟨by rfl,?_⟩) hS ?_
       rotate_left
       · (intro w hSw;(try dsimp only at hSw);go_simp;(try with_reducible rfl))
       rotate_left
       simp only [Act.put,zq0,zq1,zq2,zq3,zq4,zq5]
       refine wpAnyG.take (i:=3) (o:=_) (v:=?_) rfl (by kernel_rfl) (by kernel_rfl) (by kernel_rfl) (fun _ _ _ h=>h) (Or.inl ⟨by rfl,?_⟩) hS ?_
       rotate_left
       · (intro w hSw;(try dsimp only at hSw);go_simp;(try with_reducible rfl))
       rotate_left
       simp only [Act.put,zq0,zq1,zq2,zq3,zq4,zq5]
       refine wpAnyG.take (i:=4) (o:=_) (v:=?_) rfl (by kernel_rfl) (by kernel_rfl) (by kernel_rfl) (fun _ _ _ h=>h) (Or.inl ⟨by rfl,?_⟩) hS ?_
       rotate_left
       · (intro w hSw;(try dsimp only at hSw);go_simp;(try with_reducible rfl))
       rotate_left
       simp only [Act.put,zq0,zq1,zq2,zq3,zq4,zq5]
       refine wpAnyG.take (i:=5) (o:=_) (v:=?_) rfl (by kernel_rfl) (by kernel_rfl) (by kernel_rfl) (fun _ _ _ h=>h) (Or.inl ⟨by rfl,?_⟩) hS ?_
       rotate_left
       · (intro w hSw;(try dsimp only at hSw);go_simp;(try with_reducible rfl))
       rotate_left
       simp only [Act.put,zq0,zq1,zq2,zq3,zq4,zq5]
       refine wpAnyG.take (i:=6) (o:=_) (v:=?_) rfl (by kernel_rfl) (by kernel_rfl) (by kernel_rfl) (fun _ _ _ h=>h) (Or.inl ⟨by rfl,?_⟩) hS ?_
       rotate_left
       · (intro w hSw;(try dsimp only at hSw);go_simp;(try with_reducible rfl))
       rotate_left
       simp only [Act.put,zq0,zq1,zq2,zq3,zq4,zq5]
       refine wpAnyG.next (rs:=[7]) (by kernel_rfl) (by simp) ?_
       refine NextG.cons rfl (fun K hK=>?_) NextG.nil
       rw [if_pos (by rfl)]
       refine wp_copyL (.const (.slice none 0 0)) (.tmp 43) 26 rfl 5 iu (.int .u8 0) .byte rfl Try.underlying26 hu hu0 hu1 hu2 rfl rfl S bs Ai bs.length ci rfl (HR5.out.below bd) ?_
       intro u w2 rd2 bq
       obtain ⟨Au,cu,eu⟩:=bytesV rd2
       subst eu
       have G9:=GA.next bq
       have X9:=XA.next bq
       refine hK.out _ _ (fun _=>⟨G9.cell,X9.cell,HCC.out _ (Ext.trans bd bq)⟩) (fun hS'=>?_)
       clear hK K hS
       have hS:=hS' (by kernel_rfl)
       clear hS'
       try simp only [Act.put,zq0,zq1,zq2,zq3,zq4,zq5]
       refine wpAnyG.next (rs:=[8]) (by kernel_rfl) (by simp) ?_
       refine NextG.cons rfl (fun K hK=>?_) NextG.nil
       rw [if_pos (by rfl)]
       go_simp
       have bb:=Ext.alloc (Below.refl w2.heap.size w2) (.cells #[.slice Au bs.length cu] 26)
       have rdo:=rd_one w2 (.slice Au bs.length cu) 26
       have G10:=G9.next bb
       have X10:=X9.next bb
       have HU : Hid (RdIn (w2.alloc (.cells #[.slice Au bs.length cu] 26)) (NewB wd.heap.size (w2.alloc (.cells #[.slice Au bs.length cu] 26))) (.sl .byte) bs [.slice Au bs.length cu]):=(rd2.below bb).mono fun b hb=>⟨hb.1,Nat.lt_of_lt_of_le hb.2.1 bb.size,hb.2.2.below bb⟩
       have bq2:=Ext.trans bq bb
       obtain ⟨g8,hg8⟩ : ∃ z : Nat,z = w2.heap.size:=⟨_,rfl⟩
       rw [← hg8] at rdo ⊢
       refine hK.out _ _ (fun _=>⟨G10.cell,X10.cell,HCC.out _ (Ext.trans bd bq2)⟩) (fun hS'=>?_)
       clear hK K hS hg8
       have hS:=hS' (by kernel_rfl)
       clear hS' G9 X9 rd2 bq bb
       try simp only [Act.put,zq0,zq1,zq2,zq3,zq4,zq5]
       generalize w2.alloc (.cells #[.slice Au bs.length cu] 26) = w3 at *
       refine wpAnyG.next (rs:=[9]) (by kernel_rfl) (by simp) ?_
       refine NextG.cons rfl (fun K hK=>?_) NextG.nil
       rw [if_pos (by rfl)]
       have T8:=T7.next bq2
       refine wp_append_rd w3 (.tmp 38) (.tmp 45) 65 rfl wo.heap.size 26 ib (.slice none 0 0) 1 24 Try.underlying65 hib hb0 hb1 hb2 rfl (by decide) (.slice Ad j cd) j hs rfl T8.row (some ⟨g8,0,none⟩) 1 1 [.slice Au bs.length cu] rfl (by rfl) rdo (by intro u hu;simp at hu;subst hu;rfl) (by have:=HMS.out.2.2;have:=HLQ.out;omega) (by have:=HZ.out.2.2;have:=HLQ.out;omega) (Nat.le_trans HLW9.out (Nat.le_trans bd.size bq2.size)) ?_
       intro vx' w4 own4 gr4 k4
       have TP:=T7.push hjb (Nat.le_trans HLW9.out bd.size) bq2 (by rw [← HBS.out hjb];exact HU.out) own4 gr4 k4
       have hkb : ∀ r,(Value.slice Ad j cd).ownBlock = some r → wo.heap.size ≤ r:=fun r hr=>own_block T8.row hr
       have hgx : (Value.slice Ad j cd).ownBlock ≠ some gx:=rows_box9 T8.row X10 (by decide)
       have hgf : (Value.slice Ad j cd).ownBlock ≠ some gf:=rows_box9 T8.row G10 (by decide)
       have b8:=Ext.trans b7 bq2
       have b9:=Below.grown b8 gr4 b8.size hkb
       have G11:=G10.grown gr4 hgf
       have X11:=X10.grown gr4 hgx
       have HCW : Hid (∀ w',Below wo.heap.size wo w' → w'.cell? ⟨b2,o2 + j,none⟩ = some (.slice Ai bs.length ci)):=HCO
       obtain ⟨Ad',cd',evx⟩:=own_form own4
       subst evx
       have hHT : ∀ b,(T' b ∨ NewB wd.heap.size w3 b) → b ≠ gx:=fun b hb=>by
        rcases hb with hb | hb
        · exact HT6.out b hb
        · have h1:=hb.1
          have h2:=XA.lt
          omega
       have TQ:=TP.box X11 (by decide) (by decide) (by decide) hHT 7 (.slice Ad' (j + 1) cd')
       have X12:=mbox_self X11 7 (.slice Ad' (j + 1) cd')
       have G12:=mbox_else G11 HNE.out 7 (.slice Ad' (j + 1) cd')
       have b12:=Below.setCell (p:=⟨gx,7,none⟩) b9 HGL.out (.slice Ad' (j + 1) cd')
       have x7:=X11.cell
       have f7:=X11.free
       refine hK.out _ _ (fun _=>⟨G11.cell,X11.cell,HCW.out _ b9⟩) (fun hS'=>?_)
       clear hK K hS
       have hS:=hS' (by kernel_rfl)
       clear hS'
       try simp only [Act.put,zq0,zq1,zq2,zq3,zq4,zq5]
       refine wpAnyG.take (i:=10) (o:=_) (v:=?_) rfl (by kernel_rfl) (by kernel_rfl) (by kernel_rfl) (fun _ _ _ h=>h) (Or.inl ⟨by rfl,?_⟩) hS ?_
       rotate_left
       · (intro w hSw;(try dsimp only at hSw);go_simp;(try with_reducible rfl))
       rotate_left
       simp only [Act.put,zq0,zq1,zq2,zq3,zq4,zq5]
       clear hS
       have HTQ:=Lib.hid TQ
       have HHT:=Lib.hid hHT
       clear TP TQ hHT T7 T8 rdo own4 gr4 k4 hkb hgx hgf b8 b9 G10 X10 GA XA b7 bd bq2 HU G11 X11
       refine wpAnyG.next (rs:=[11]) (by kernel_rfl) (by simp) ?_
       refine NextG.last rfl (by kernel_rfl) (fun K hK=>?_) NextG.nil
       rw [if_pos (by rfl)]
       have fz:=f7 7
       have y7:=x7 7
       go_simp
       refine hK.out _ _ ?_
       clear hK K fz y7 x7 f7
       refine wpAnyG.done (by kernel_rfl) ?_ _
       generalize w4.setCell ⟨gx,7,none⟩ (.slice Ad' (j + 1) cd') = w5 at *
       go_wp2
       go_roundw
       case rel=>exact ⟨j + 1,_,Ad',cd',_,HLQ.out,by first | exact round_same HWQ | go_num,b12,G12,X12,HTQ.out,HHT.out⟩
       case measure=>first | exact round_less HWQ HLQ.out | (have h:=HLQ.out;simp [intOf];omega)
     · have hjm : j = (fB g).length:=by have:=HM.out;omega
       have HFE:=T6.out.done hjm HI.out HSM.out HZ.out
       clear hjm
       have x6:=G7.cell
       have hlw:=X7.lt
       have bA:=Ext.alloc (Below.refl wr.heap.size wr) (.cells #[.int .i64 (fN g),.int .u8 (kI g),.int .i64 (fA g),.int .i64 (fM g),.slice A4 (fD g).length c4,.slice A7 (fS g).length c7,.slice A10 (fQ g).length c10,.slice Ad j cd] 67)
       have rd6:=rd_row wr #[.int .i64 (fN g),.int .u8 (kI g),.int .i64 (fA g),.int .i64 (fM g),.slice A4 (fD g).length c4,.slice A7 (fS g).length c7,.slice A10 (fQ g).length c10,.slice Ad j cd] 67
       have E6 : flE.E (wr.alloc (.cells #[.int .i64 (fN g),.int .u8 (kI g),.int .i64 (fA g),.int .i64 (fM g),.slice A4 (fD g).length c4,.slice A7 (fS g).length c7,.slice A10 (fQ g).length c10,.slice Ad j cd] 67)) (Iv wo.heap.size (wr.alloc (.cells #[.int .i64 (fN g),.int .u8 (kI g),.int .i64 (fA g),.int .i64 (fM g),.slice A4 (fD g).length c4,.slice A7 (fS g).length c7,.slice A10 (fQ g).length c10,.slice Ad j cd] 67)).heap.size) g (#[.int .i64 (fN g),.int .u8 (kI g),.int .i64 (fA g),.int .i64 (fM g),.slice A4 (fD g).length c4,.slice A7 (fS g).length c7,.slice A10 (fQ g).length c10,.slice Ad j cd] : Array Value).toList:=⟨_,_,_,_,_,_,rfl,(HFE.frame fun b hb=>bA.block b hb.2).mono fun b hb=>⟨hb.1,Nat.lt_of_lt_of_le hb.2 bA.size⟩⟩
       have b8:=Ext.trans b6 bA
       have t8:=Ext.trans b1'.out b8
       have O8:=OwnE.next O1.out (fun b hb=>hb.2) b8
       have hll : wo.heap.size ≤ (wr.alloc (.cells #[.int .i64 (fN g),.int .u8 (kI g),.int .i64 (fA g),.int .i64 (fM g),.slice A4 (fD g).length c4,.slice A7 (fS g).length c7,.slice A10 (fQ g).length c10,.slice Ad j cd] 67)).heap.size:=b8.size
       have HSI : Hid ((Try.prog.info? 67).map (·.size) = some (#[.int .i64 (fN g),.int .u8 (kI g),.int .i64 (fA g),.int .i64 (fM g),.slice A4 (fD g).length c4,.slice A7 (fS g).length c7,.slice A10 (fQ g).length c10,.slice Ad j cd] : Array Value).size):=by show _ = _;kernel_rfl
       have HBT : Hid (Try.prog.builtSlice 67 1 [(0,.agg #[.int .i64 (fN g),.int .u8 (kI g),.int .i64 (fA g),.int .i64 (fM g),.slice A4 (fD g).length c4,.slice A7 (fS g).length c7,.slice A10 (fQ g).length c10,.slice Ad j cd])] = some #[.int .i64 (fN g),.int .u8 (kI g),.int .i64 (fA g),.int .i64 (fM g),.slice A4 (fD g).length c4,.slice A7 (fS g).length c7,.slice A10 (fQ g).length c10,.slice Ad j cd]):=builtS_fl _ _ _ _ _ _ _ _
       have hkl : (fs.take k).length = k:=by rw [List.length_take];have:=HNL.out;have:=HLJ.out;omega
       have HBY : Hid ((fs.take k).length + 1 ≤ maxLen ∧ ((fs.take k).length + 1) * 128 ≤ 140737488355328):=by
        have h1:=HNM.out
        have h2:=HNZ.out
        have h3:=HLJ.out
        show _ ∧ _
        rw [hkl]
        omega
       obtain ⟨ca,hca⟩ : ∃ z : Array Value,z = #[.int .i64 (fN g),.int .u8 (kI g),.int .i64 (fA g),.int .i64 (fM g),.slice A4 (fD g).length c4,.slice A7 (fS g).length c7,.slice A10 (fQ g).length c10,.slice Ad j cd]:=⟨_,rfl⟩
       rw [← hca] at X7 rd6 E6 t8 O8 hll HSI HBT
       have HX7:=Lib.hid X7
       clear HFE hkl T6 bA b6 b8 G7 hlw hca X7
       go_upto_region 11 with fail
       clear x6
       go_upto_region 4 with (first
        | (refine wpList_load_row rfl 67 (.tmp 6) rfl gx rfl 67 ca _ _ HX7.out Try.underlying67 rfl HSI.out ?_)
        | (refine Great.wpList_buildSliceTo rfl 25 67 1 #[(0,.tmp 49)] rfl wr.heap.size rfl (some 50) rfl Try.underlying25 ca (by simp only [List.map_toArray,List.map_cons,List.map_nil,Act.eval,Act.put,Array.getD_eq_getD_getElem?,List.setIfInBounds_toArray,List.set_cons_zero,List.set_cons_succ,List.getElem?_toArray,List.getElem?_cons_succ,List.getElem?_cons_zero,Option.getD_some];exact HBT.out) ?_)
        | (at_builtin;refine wpList_pushI rfl (.tmp 48) (.tmp 50) 25 rfl W.heap.size wo.heap.size 67 ig _ 128 Try.underlying25 hig hg0 hg1 hg2 rfl (by decide) _ (fs.take k) rfl O8 hll HLW.out (some ⟨wr.heap.size,0,none⟩) 1 _ rfl rd6 g E6 HBY.out.1 HBY.out.2 ?_;intro vz wz Oz gz kz;have tz:=Below.grown t8 gz t8.size kz;have Oy:=OwnE.cast HST.out.symm Oz;clear O8 rd6 E6 t8 gz kz Oz))
       go_wp2
       go_roundw
       case rel=>exact ⟨k + 1,HLJ.out,by first | exact round_same HWJ | go_num,tz,Oy⟩
       case measure=>first | exact round_less HWJ HLJ.out | (have h:=HLJ.out;simp [intOf];omega)
  · have hke : fs.take k = fs:=List.take_of_length_le (by have:=HNL.out;omega)
    have HO:=O1.out
    unfold FlNew at HO
    rw [hke] at HO
    go_wp2
    go_ret
    exact ⟨⟨_,rfl,by have h:=HWW.out;subst h;exact HO⟩,bw⟩
end Go.Proofs.Ythapabjlhooglaa
namespace Go.Proofs.Ythapabjlhooglaa
open Go.RowKit
set_option linter.unusedSimpArgs false
set_option linter.unusedVariables false
def meetB (k1 a1 y1 k2 a2 y2 : Int) : Bool:=(kWrites k1 || kWrites k2) && (decide (a1 < a2 + y2) && decide (a2 < a1 + y1))
theorem meet_touch {k1 a1 y1 k2 a2 y2 : Int} (h1 : 0 ≤ a1 ∧ (1 ≤ y1 ∨ (a1 = 0 ∧ y1 = 0))) (h2 : 0 ≤ a2 ∧ (1 ≤ y2 ∨ (a2 = 0 ∧ y2 = 0))) : meetB k1 a1 y1 k2 a2 y2 = touchB k1 a1 y1 k2 a2 y2:=by
 unfold meetB touchB
 congr 1
 rw [Bool.eq_iff_iff]
 simp only [Bool.and_eq_true,decide_eq_true_eq]
 omega
set_option maxRecDepth 100000 in
theorem rmeet_any (k1 a1 y1 k2 a2 y2 : Int) (A1 A2 : Option Addr) (n1 q1 n2 q2 : Nat) (hy1 : 0 ≤ y1 ∧ y1 ≤ 8) (hy2 : 0 ≤ y2 ∧ y2 ≤ 8) (ha1 : 0 ≤ a1 ∧ a1 ≤ 1000) (ha2 : 0 ≤ a2 ∧ a2 ≤ 1000) (w : World) :
 Calls Try.prog 76 #[.agg #[.int .u8 k1,.int .i64 a1,.int .i64 y1,.slice A1 n1 q1],.agg #[.int .u8 k2,.int .i64 a2,.int .i64 y2,.slice A2 n2 q2]] w fun e w'=>e = .returned (.bool (meetB k1 a1 y1 k2 a2 y2)) ∧ Below w.heap.size w w':=by
 have H1:=Lib.hid (rwrites_any k1)
 have H2:=Lib.hid (rwrites_any k2)
 obtain ⟨hy11,hy12⟩:=hy1
 obtain ⟨hy21,hy22⟩:=hy2
 obtain ⟨ha11,ha12⟩:=ha1
 obtain ⟨ha21,ha22⟩:=ha2
 unfold meetB
 have t0:=Ext.alloc (Ext.alloc (Below.refl w.heap.size w) (.cells #[.int .u8 k1,.int .i64 a1,.int .i64 y1,.slice A1 n1 q1] 28)) (.cells #[.int .u8 k2,.int .i64 a2,.int .i64 y2,.slice A2 n2 q2] 28)
 generalize kWrites k1 = w1 at *
 generalize kWrites k2 = w2 at *
 cases hd : decide (a1 < a2 + y2) <;> cases w1
 · cases w2
   all_goals
    go_enter Try.func76,Try.ntmps76
    go_wp2_with fail
    refine (H1.out _).mono ?_
    rintro e w1 ⟨rfl,rfl⟩
    go_wp2_with fail
    refine (H2.out _).mono ?_
    rintro e w1 ⟨rfl,rfl⟩
    go_wp2
    go_ret
    exact ⟨rfl,t0⟩
 · go_enter Try.func76,Try.ntmps76
   go_wp2_with fail
   refine (H1.out _).mono ?_
   rintro e w1 ⟨rfl,rfl⟩
   go_wp2
   go_ret
   exact ⟨rfl,t0⟩
 · cases w2
   all_goals
    go_enter Try.func76,Try.ntmps76
    go_wp2_with fail
    refine (H1.out _).mono ?_
    rintro e w1 ⟨rfl,rfl⟩
    go_wp2_with fail
    refine (H2.out _).mono ?_
    rintro e w1 ⟨rfl,rfl⟩
    go_wp2
    go_ret
    exact ⟨rfl,t0⟩
 · go_enter Try.func76,Try.ntmps76
   go_wp2_with fail
   refine (H1.out _).mono ?_
   rintro e w1 ⟨rfl,rfl⟩
   go_wp2
   go_ret
   exact ⟨rfl,t0⟩
end Go.Proofs.Ythapabjlhooglaa
namespace Go.Proofs.Ythapabjlhooglaa
open Go Go.RowKit
set_option linter.unusedSimpArgs false
set_option linter.unusedVariables false
set_option maxRecDepth 100000 in
set_option maxHeartbeats 4000000 in
theorem rpart_any (nu kd a y : Int) (Ab : Option Addr) (lb cb ls cs lq cq lx cx i s q n c : Nat) (bs os bq oq bx ox : Nat) (D : Option Addr) (w : World) (hs : i < ls) (hq : i < lq) (hx : i < lx)
 (ks : w.cell? ⟨bs,os + i,none⟩ = some (.int .u8 (s : Int))) (kq : w.cell? ⟨bq,oq + i,none⟩ = some (.int .u32 (q : Int))) (kx : w.cell? ⟨bx,ox + i,none⟩ = some (.slice D n c)) :
 Calls Try.prog 45 #[.agg #[.int .i64 nu,.int .u8 kd,.int .i64 a,.int .i64 y,.slice Ab lb cb,.slice (some ⟨bs,os,none⟩) ls cs,.slice (some ⟨bq,oq,none⟩) lq cq,.slice (some ⟨bx,ox,none⟩) lx cx],.int .i64 (i : Int)] w fun e w'=>e = .returned (.bool (blkP kd s q n)) ∧ Below w.heap.size w w':=by
 have P0:=BoxOf.new w #[.int .i64 nu,.int .u8 kd,.int .i64 a,.int .i64 y,.slice Ab lb cb,.slice (some ⟨bs,os,none⟩) ls cs,.slice (some ⟨bq,oq,none⟩) lq cq,.slice (some ⟨bx,ox,none⟩) lx cx] 67
 have t0:=Ext.alloc (Below.refl w.heap.size w) (.cells #[.int .i64 nu,.int .u8 kd,.int .i64 a,.int .i64 y,.slice Ab lb cb,.slice (some ⟨bs,os,none⟩) ls cs,.slice (some ⟨bq,oq,none⟩) lq cq,.slice (some ⟨bx,ox,none⟩) lx cx] 67)
 have ks0:=(t0.cell (p:=⟨bs,os + i,none⟩) (block_lt_of_cell ks)).trans ks
 have kq0:=(t0.cell (p:=⟨bq,oq + i,none⟩) (block_lt_of_cell kq)).trans kq
 have kx0:=(t0.cell (p:=⟨bx,ox + i,none⟩) (block_lt_of_cell kx)).trans kx
 clear ks kq kx
 go_enter Try.func45,Try.ntmps45
 go_upto_region 1 with fail
 generalize w.alloc (.cells #[.int .i64 nu,.int .u8 kd,.int .i64 a,.int .i64 y,.slice Ab lb cb,.slice (some ⟨bs,os,none⟩) ls cs,.slice (some ⟨bq,oq,none⟩) lq cq,.slice (some ⟨bx,ox,none⟩) lx cx] 67) = W at *
 have HSX : Hid (∀ w',Below W.heap.size W w' → (Below W.heap.size W w' ∧ (∀ p,w'.cell? ⟨w.heap.size,p,none⟩ = (#[.int .i64 nu,.int .u8 kd,.int .i64 a,.int .i64 y,.slice Ab lb cb,.slice (some ⟨bs,os,none⟩) ls cs,.slice (some ⟨bq,oq,none⟩) lq cq,.slice (some ⟨bx,ox,none⟩) lx cx] : Array Value).toList[p]?) ∧ w'.cell? ⟨bs,os + i,none⟩ = some (.int .u8 (s : Int)) ∧ w'.cell? ⟨bq,oq + i,none⟩ = some (.int .u32 (q : Int)) ∧ w'.cell? ⟨bx,ox + i,none⟩ = some (.slice D n c))):=fun w' bb=>⟨bb,(P0.next bb).cell,(bb.cell (p:=⟨bs,os + i,none⟩) (cell_lt ks0)).trans ks0,(bb.cell (p:=⟨bq,oq + i,none⟩) (cell_lt kq0)).trans kq0,(bb.cell (p:=⟨bx,ox + i,none⟩) (cell_lt kx0)).trans kx0⟩
 have HSD:=HSX.out _ (Ext.drew (Below.refl W.heap.size W))
 clear ks0 kq0 kx0
 refine wp_region_held_drew (S:=fun w'=>Below W.heap.size W w' ∧ (∀ p,w'.cell? ⟨w.heap.size,p,none⟩ = (#[.int .i64 nu,.int .u8 kd,.int .i64 a,.int .i64 y,.slice Ab lb cb,.slice (some ⟨bs,os,none⟩) ls cs,.slice (some ⟨bq,oq,none⟩) lq cq,.slice (some ⟨bx,ox,none⟩) lx cx] : Array Value).toList[p]?) ∧ w'.cell? ⟨bs,os + i,none⟩ = some (.int .u8 (s : Int)) ∧ w'.cell? ⟨bq,oq + i,none⟩ = some (.int .u32 (q : Int)) ∧ w'.cell? ⟨bx,ox + i,none⟩ = some (.slice D n c)) (by kernel_rfl) HSD (fun hS=>?_)
 clear HSD
 refine wpAnyH_take (i:=0) (v:=?_) rfl (by kernel_rfl) (by kernel_rfl) (by kernel_rfl) (fun _ _ _ h=>h) (Or.inl ⟨by rfl,?_⟩) hS ?_
 rotate_left
 · (intro w hSw;(try dsimp only at hSw);go_simp;(try with_reducible rfl))
 rotate_left
 simp only [Act.put,zq0,zq1,zq2,zq3,zq4,zq5]
 refine wpAnyH_take (i:=1) (v:=?_) rfl (by kernel_rfl) (by kernel_rfl) (by kernel_rfl) (fun _ _ _ h=>h) (Or.inl ⟨by rfl,?_⟩) hS ?_
 rotate_left
 · (intro w hSw;(try dsimp only at hSw);go_simp;(try with_reducible rfl))
 rotate_left
 simp only [Act.put,zq0,zq1,zq2,zq3,zq4,zq5]
 refine wpAnyH_take (i:=2) (v:=?_) rfl (by kernel_rfl) (by kernel_rfl) (by kernel_rfl) (fun _ _ _ h=>h) (Or.inl ⟨by rfl,?_⟩) hS ?_
 rotate_left
 · (intro w hSw;(try dsimp only at hSw);go_simp;(try with_reducible rfl))
 rotate_left
 simp only [Act.put,zq0,zq1,zq2,zq3,zq4,zq5]
 refine wpAnyH_take (i:=3) (v:=?_) rfl (by kernel_rfl) (by kernel_rfl) (by kernel_rfl) (fun _ _ _ h=>h) (Or.inl ⟨by rfl,?_⟩) hS ?_
 rotate_left
 · (intro w hSw;(try dsimp only at hSw);go_simp;(try with_reducible rfl))
 rotate_left
 simp only [Act.put,zq0,zq1,zq2,zq3,zq4,zq5]
 refine wpAnyH_take (i:=4) (v:=?_) rfl (by kernel_rfl) (by kernel_rfl) (by kernel_rfl) (fun _ _ _ h=>h) (Or.inl ⟨by rfl,?_⟩) hS ?_
 rotate_left
 · (intro w hSw;(try dsimp only at hSw);go_simp;(try with_reducible rfl))
 rotate_left
 simp only [Act.put,zq0,zq1,zq2,zq3,zq4,zq5]
 refine wpAnyH_take (i:=5) (v:=?_) rfl (by kernel_rfl) (by kernel_rfl) (by kernel_rfl) (fun _ _ _ h=>h) (Or.inl ⟨by rfl,?_⟩) hS ?_
 rotate_left
 · (intro w hSw;(try dsimp only at hSw);go_simp;(try with_reducible rfl))
 rotate_left
 simp only [Act.put,zq0,zq1,zq2,zq3,zq4,zq5]
 refine wpAnyH_take (i:=6) (v:=?_) rfl (by kernel_rfl) (by kernel_rfl) (by kernel_rfl) (fun _ _ _ h=>h) (Or.inl ⟨by rfl,?_⟩) hS ?_
 rotate_left
 · (intro w hSw;(try dsimp only at hSw);go_simp;(try with_reducible rfl))
 rotate_left
 simp only [Act.put,zq0,zq1,zq2,zq3,zq4,zq5]
 refine wpAnyH_take (i:=7) (v:=?_) rfl (by kernel_rfl) (by kernel_rfl) (by kernel_rfl) (fun _ _ _ h=>h) (Or.inl ⟨by rfl,?_⟩) hS ?_
 rotate_left
 · (intro w hSw;(try dsimp only at hSw);go_simp;(try with_reducible rfl))
 rotate_left
 simp only [Act.put,zq0,zq1,zq2,zq3,zq4,zq5]
 refine wpAnyH_take (i:=8) (v:=?_) rfl (by kernel_rfl) (by kernel_rfl) (by kernel_rfl) (fun _ _ _ h=>h) (Or.inl ⟨by rfl,?_⟩) hS ?_
 rotate_left
 · (intro w hSw;(try dsimp only at hSw);go_simp;(try with_reducible rfl))
 rotate_left
 simp only [Act.put,zq0,zq1,zq2,zq3,zq4,zq5]
 refine wpAnyH_take (i:=9) (v:=?_) rfl (by kernel_rfl) (by kernel_rfl) (by kernel_rfl) (fun _ _ _ h=>h) (Or.inl ⟨by rfl,?_⟩) hS ?_
 rotate_left
 · (intro w hSw;(try dsimp only at hSw);go_simp;(try with_reducible rfl))
 rotate_left
 simp only [Act.put,zq0,zq1,zq2,zq3,zq4,zq5]
 refine wpAnyH_take (i:=10) (v:=?_) rfl (by kernel_rfl) (by kernel_rfl) (by kernel_rfl) (fun _ _ _ h=>h) (Or.inl ⟨by rfl,?_⟩) hS ?_
 rotate_left
 · (intro w hSw;(try dsimp only at hSw);go_simp;(try with_reducible rfl))
 rotate_left
 simp only [Act.put,zq0,zq1,zq2,zq3,zq4,zq5]
 refine wpAnyH_take (i:=11) (v:=?_) rfl (by kernel_rfl) (by kernel_rfl) (by kernel_rfl) (fun _ _ _ h=>h) (Or.inl ⟨by rfl,?_⟩) hS ?_
 rotate_left
 · (intro w hSw;(try dsimp only at hSw);go_simp;(try with_reducible rfl))
 rotate_left
 simp only [Act.put,zq0,zq1,zq2,zq3,zq4,zq5]
 refine wpAnyH_take (i:=12) (v:=?_) rfl (by kernel_rfl) (by kernel_rfl) (by kernel_rfl) (fun _ _ _ h=>h) (Or.inl ⟨by rfl,?_⟩) hS ?_
 rotate_left
 · (intro w hSw;(try dsimp only at hSw);go_simp;(try with_reducible rfl))
 rotate_left
 simp only [Act.put,zq0,zq1,zq2,zq3,zq4,zq5]
 refine wpAnyH_take (i:=13) (v:=?_) rfl (by kernel_rfl) (by kernel_rfl) (by kernel_rfl) (fun _ _ _ h=>h) (Or.inl ⟨by rfl,?_⟩) hS ?_
 rotate_left
 · (intro w hSw;(try dsimp only at hSw);go_simp;(try with_reducible rfl))
 rotate_left
 simp only [Act.put,zq0,zq1,zq2,zq3,zq4,zq5]
 refine wpAnyH_take (i:=14) (v:=?_) rfl (by kernel_rfl) (by kernel_rfl) (by kernel_rfl) (fun _ _ _ h=>h) (Or.inl ⟨by rfl,?_⟩) hS ?_
 rotate_left
 · (intro w hSw;(try dsimp only at hSw);go_simp;(try with_reducible rfl))
 rotate_left
 simp only [Act.put,zq0,zq1,zq2,zq3,zq4,zq5]
 refine wpAnyH_take (i:=15) (v:=?_) rfl (by kernel_rfl) (by kernel_rfl) (by kernel_rfl) (fun _ _ _ h=>h) (Or.inl ⟨by rfl,?_⟩) hS ?_
 rotate_left
 · (intro w hSw;(try dsimp only at hSw);go_simp;(try with_reducible rfl))
 rotate_left
 simp only [Act.put,zq0,zq1,zq2,zq3,zq4,zq5]
 refine wpAnyH_take (i:=16) (v:=?_) rfl (by kernel_rfl) (by kernel_rfl) (by kernel_rfl) (fun _ _ _ h=>h) (Or.inl ⟨by rfl,?_⟩) hS ?_
 rotate_left
 · (intro w hSw;(try dsimp only at hSw);go_simp;(try with_reducible rfl))
 rotate_left
 simp only [Act.put,zq0,zq1,zq2,zq3,zq4,zq5]
 refine wpAnyH_take (i:=17) (v:=?_) rfl (by kernel_rfl) (by kernel_rfl) (by kernel_rfl) (fun _ _ _ h=>h) (Or.inl ⟨by rfl,?_⟩) hS ?_
 rotate_left
 · (intro w hSw;(try dsimp only at hSw);go_simp;(try with_reducible rfl))
 rotate_left
 simp only [Act.put,zq0,zq1,zq2,zq3,zq4,zq5]
 refine wpAnyH_take (i:=18) (v:=?_) rfl (by kernel_rfl) (by kernel_rfl) (by kernel_rfl) (fun _ _ _ h=>h) (Or.inl ⟨by rfl,?_⟩) hS ?_
 rotate_left
 · (intro w hSw;(try dsimp only at hSw);go_simp;(try with_reducible rfl))
 rotate_left
 simp only [Act.put,zq0,zq1,zq2,zq3,zq4,zq5]
 refine wpAnyH_done (by kernel_rfl) ?_ _
 have bd:=hS.1
 have x1:=(P0.next bd).cell
 have t1:=Ext.trans t0 bd
 clear hS HSX P0 t0 bd hs hq hx
 generalize W.drew = w1 at *
 by_cases h2 : s = 2
 · have f2 : ((s : Int) == 2) = true:=by simp;omega
   have f2' : (s == 2) = true:=by simp;omega
   have f2n : ((s : Int) != 2) = false:=by simp;omega
   have f2n' : (s != 2) = false:=by simp;omega
   by_cases hq0 : q = 0
   · have f0 : ((q : Int) == 0) = true:=by simp;omega
     have f0' : (q == 0) = true:=by simp;omega
     have HR : Hid (blkP kd s q n = false):=blkP_odd (by rw [decide_eq_true h2,decide_eq_false (by omega)];decide)
     clear h2 hq0
     go_wp2
     go_ret
     exact ⟨by first | rfl | (rw [HR.out];rfl),t1⟩
   · have f0 : ((q : Int) == 0) = false:=by simp;omega
     have f0' : (q == 0) = false:=by simp;omega
     have f3 : ¬ (3 : Int) < (s : Int):=by omega
     have f3' : ¬ 3 < s:=by omega
     have f3d : decide (3 < s) = false:=decide_eq_false f3'
     have hr:=Lib.hid (blkP_in (kd:=kd) (n:=n) (s:=s) (q:=q) (by omega) (by rw [decide_eq_true h2,decide_eq_true (by omega)]))
     clear hq0 h2
     by_cases hk : kd = 1
     · have e5 : (kd == 1) = true:=by simpa using hk
       have e5' : (kd != 1) = false:=by simpa using hk
       by_cases h0 : s = 0
       · have g1 : ((s : Int) == 0) = true:=by simp;omega
         have g1' : (s == 0) = true:=by simp;omega
         by_cases hn : n = 0
         · have g2 : ((n : Int) == 0) = true:=by simp;omega
           have g2' : (n == 0) = true:=by simp;omega
           have HR : Hid (blkP kd s q n = true):=by show _ = _;rw [hr.out,if_pos hk,h0,hn];rfl
           clear hk h0 hn
           go_wp2
           go_ret
           exact ⟨by first | rfl | (rw [HR.out];rfl),t1⟩
         · have g2 : ((n : Int) == 0) = false:=by simp;omega
           have g2' : (n == 0) = false:=by simp;omega
           have g3 : ((s : Int) == 3) = false:=by simp;omega
           have g3' : (s == 3) = false:=by simp;omega
           have HR : Hid (blkP kd s q n = false):=by show _ = _;rw [hr.out,if_pos hk,decide_eq_false (fun h=>hn h.2),decide_eq_false (fun h=>by omega)];rfl
           clear hk h0 hn
           go_wp2
           go_ret
           exact ⟨by first | rfl | (rw [HR.out];rfl),t1⟩
       · have g1 : ((s : Int) == 0) = false:=by simp;omega
         have g1' : (s == 0) = false:=by simp;omega
         by_cases h3 : s = 3
         · have g3 : ((s : Int) == 3) = true:=by simp;omega
           have g3' : (s == 3) = true:=by simp;omega
           by_cases hn : n = 128
           · have g2 : ((n : Int) == 128) = true:=by simp;omega
             have g2' : (n == 128) = true:=by simp;omega
             have HR : Hid (blkP kd s q n = true):=by show _ = _;rw [hr.out,if_pos hk,h3,hn];rfl
             clear hk h0 hn h3
             go_wp2
             go_ret
             exact ⟨by first | rfl | (rw [HR.out];rfl),t1⟩
           · have g2 : ((n : Int) == 128) = false:=by simp;omega
             have g2' : (n == 128) = false:=by simp;omega
             have HR : Hid (blkP kd s q n = false):=by show _ = _;rw [hr.out,if_pos hk,decide_eq_false (fun h=>h0 h.1),decide_eq_false (fun h=>hn h.2)];rfl
             clear hk h0 hn h3
             go_wp2
             go_ret
             exact ⟨by first | rfl | (rw [HR.out];rfl),t1⟩
         · have g3 : ((s : Int) == 3) = false:=by simp;omega
           have g3' : (s == 3) = false:=by simp;omega
           have HR : Hid (blkP kd s q n = false):=by show _ = _;rw [hr.out,if_pos hk,decide_eq_false (fun h=>h0 h.1),decide_eq_false (fun h=>h3 h.1)];rfl
           clear hk h0 h3
           go_wp2
           go_ret
           exact ⟨by first | rfl | (rw [HR.out];rfl),t1⟩
     · have e5 : (kd == 1) = false:=by simpa using hk
       have e5' : (kd != 1) = true:=by simpa using hk
       by_cases hn : n = 0
       · have g2 : ((n : Int) == 0) = true:=by simp;omega
         have g2' : (n == 0) = true:=by simp;omega
         have HR : Hid (blkP kd s q n = true):=by show _ = _;rw [hr.out,if_neg hk,decide_eq_true hn]
         clear hk hn
         go_wp2
         go_ret
         exact ⟨by first | rfl | (rw [HR.out];rfl),t1⟩
       · have g2 : ((n : Int) == 0) = false:=by simp;omega
         have g2' : (n == 0) = false:=by simp;omega
         have HR : Hid (blkP kd s q n = false):=by show _ = _;rw [hr.out,if_neg hk,decide_eq_false hn]
         clear hk hn
         go_wp2
         go_ret
         exact ⟨by first | rfl | (rw [HR.out];rfl),t1⟩
 · have f2 : ((s : Int) == 2) = false:=by simp;omega
   have f2' : (s == 2) = false:=by simp;omega
   have f2n : ((s : Int) != 2) = true:=by simp;omega
   have f2n' : (s != 2) = true:=by simp;omega
   by_cases hq0 : q = 0
   · have f0 : ((q : Int) != 0) = false:=by simp;omega
     have f0' : (q != 0) = false:=by simp;omega
     by_cases h3 : 3 < s
     · have f3 : (3 : Int) < (s : Int):=by omega
       have f3d : decide (3 < s) = true:=decide_eq_true h3
       have HR : Hid (blkP kd s q n = false):=blkP_far h3
       clear h2 hq0
       go_wp2
       go_ret
       exact ⟨by first | rfl | (rw [HR.out];rfl),t1⟩
     · have f3 : ¬ (3 : Int) < (s : Int):=by omega
       have f3d : decide (3 < s) = false:=decide_eq_false h3
       have hr:=Lib.hid (blkP_in (kd:=kd) (n:=n) (s:=s) (q:=q) (by omega) (by rw [decide_eq_false h2,decide_eq_false (by omega)]))
       clear hq0 h2
       by_cases hk : kd = 1
       · have e5 : (kd == 1) = true:=by simpa using hk
         have e5' : (kd != 1) = false:=by simpa using hk
         by_cases h0 : s = 0
         · have g1 : ((s : Int) == 0) = true:=by simp;omega
           have g1' : (s == 0) = true:=by simp;omega
           by_cases hn : n = 0
           · have g2 : ((n : Int) == 0) = true:=by simp;omega
             have g2' : (n == 0) = true:=by simp;omega
             have HR : Hid (blkP kd s q n = true):=by show _ = _;rw [hr.out,if_pos hk,h0,hn];rfl
             clear hk h0 hn
             go_wp2
             go_ret
             exact ⟨by first | rfl | (rw [HR.out];rfl),t1⟩
           · have g2 : ((n : Int) == 0) = false:=by simp;omega
             have g2' : (n == 0) = false:=by simp;omega
             have g3 : ((s : Int) == 3) = false:=by simp;omega
             have g3' : (s == 3) = false:=by simp;omega
             have HR : Hid (blkP kd s q n = false):=by show _ = _;rw [hr.out,if_pos hk,decide_eq_false (fun h=>hn h.2),decide_eq_false (fun h=>by omega)];rfl
             clear hk h0 hn
             go_wp2
             go_ret
             exact ⟨by first | rfl | (rw [HR.out];rfl),t1⟩
         · have g1 : ((s : Int) == 0) = false:=by simp;omega
           have g1' : (s == 0) = false:=by simp;omega
           by_cases h3 : s = 3
           · have g3 : ((s : Int) == 3) = true:=by simp;omega
             have g3' : (s == 3) = true:=by simp;omega
             by_cases hn : n = 128
             · have g2 : ((n : Int) == 128) = true:=by simp;omega
               have g2' : (n == 128) = true:=by simp;omega
               have HR : Hid (blkP kd s q n = true):=by show _ = _;rw [hr.out,if_pos hk,h3,hn];rfl
               clear hk h0 hn h3
               go_wp2
               go_ret
               exact ⟨by first | rfl | (rw [HR.out];rfl),t1⟩
             · have g2 : ((n : Int) == 128) = false:=by simp;omega
               have g2' : (n == 128) = false:=by simp;omega
               have HR : Hid (blkP kd s q n = false):=by show _ = _;rw [hr.out,if_pos hk,decide_eq_false (fun h=>h0 h.1),decide_eq_false (fun h=>hn h.2)];rfl
               clear hk h0 hn h3
               go_wp2
               go_ret
               exact ⟨by first | rfl | (rw [HR.out];rfl),t1⟩
           · have g3 : ((s : Int) == 3) = false:=by simp;omega
             have g3' : (s == 3) = false:=by simp;omega
             have HR : Hid (blkP kd s q n = false):=by show _ = _;rw [hr.out,if_pos hk,decide_eq_false (fun h=>h0 h.1),decide_eq_false (fun h=>h3 h.1)];rfl
             clear hk h0 h3
             go_wp2
             go_ret
             exact ⟨by first | rfl | (rw [HR.out];rfl),t1⟩
       · have e5 : (kd == 1) = false:=by simpa using hk
         have e5' : (kd != 1) = true:=by simpa using hk
         by_cases hn : n = 0
         · have g2 : ((n : Int) == 0) = true:=by simp;omega
           have g2' : (n == 0) = true:=by simp;omega
           have HR : Hid (blkP kd s q n = true):=by show _ = _;rw [hr.out,if_neg hk,decide_eq_true hn]
           clear hk hn
           go_wp2
           go_ret
           exact ⟨by first | rfl | (rw [HR.out];rfl),t1⟩
         · have g2 : ((n : Int) == 0) = false:=by simp;omega
           have g2' : (n == 0) = false:=by simp;omega
           have HR : Hid (blkP kd s q n = false):=by show _ = _;rw [hr.out,if_neg hk,decide_eq_false hn]
           clear hk hn
           go_wp2
           go_ret
           exact ⟨by first | rfl | (rw [HR.out];rfl),t1⟩
   · have f0 : ((q : Int) != 0) = true:=by simp;omega
     have f0' : (q != 0) = true:=by simp;omega
     have HR : Hid (blkP kd s q n = false):=blkP_odd (by rw [decide_eq_false h2,decide_eq_true (by omega)];decide)
     clear h2 hq0
     go_wp2
     go_ret
     exact ⟨by first | rfl | (rw [HR.out];rfl),t1⟩
end Go.Proofs.Ythapabjlhooglaa
namespace Go.Proofs.Ythapabjlhooglaa
open Go Go.RowKit
set_option linter.unusedSimpArgs false
set_option linter.unusedVariables false
def fPut (f : FlTy.T) (i : Nat) (s : UInt8) (q : Nat) (d : List UInt8) : FlTy.T:=fSetB (fSetQ (fSetS f i s) i q) i d
def goP (x : Cfg) (fs : List FlTy.T) (n b : Int) (s : UInt8) (q : Nat) (dat : List UInt8) : List FlTy.T × Int:=
 if flB x fs = true then (match fndP fs n b with
  | none=>([],6)
  | some k=>match fs[k]? with
    | none=>([],6)
    | some f=>if firstB fs k = true ∧ ((fS f)[(b - fA f).toNat]?.getD 0).toNat < s.toNat then (if blkB (kI f) s q dat.length = true then (fs.set k (fPut f (b - fA f).toNat s q dat),0) else ([],2)) else ([],6))
 else ([],8)
theorem goP_at {x : Cfg} {fs : List FlTy.T} {n b : Int} {s : UInt8} {q : Nat} {dat : List UInt8} {k i : Nat} (h : flB x fs = true) (h2 : fndP fs n b = some k) (hk : k < fs.length) (hb : b = fA fs[k] + (i : Int)) (hi : i < (fS fs[k]).length) :
 goP x fs n b s q dat = if firstB fs k = true ∧ ((fS fs[k])[i]).toNat < s.toNat then (if blkB (kI fs[k]) s q dat.length = true then (fs.set k (fPut fs[k] i s q dat),0) else ([],2)) else ([],6):=by
 unfold goP
 rw [if_pos h,h2]
 simp only [List.getElem?_eq_getElem hk]
 have e : (b - fA fs[k]).toNat = i:=by omega
 rw [e,List.getElem?_eq_getElem hi]
 rfl
theorem oneB_len {x : Cfg} {f : FlTy.T} (h : oneB x f = true) {i : Nat} (hi : (i : Int) < fM f) : ∃ m : Nat,fM f = (m : Int) ∧ m ≤ 8 ∧ i < m ∧ (fS f).length = m ∧ (fQ f).length = m ∧ (fB f).length = m:=by
 obtain ⟨h1,_,h3,h4,h5,_⟩:=oneB_iff.1 h
 obtain ⟨_,hpl,_,hy,_,_⟩:=askCode_0 h1
 obtain ⟨m,hm⟩ : ∃ m : Nat,fM f = (m : Int):=⟨(fM f).toNat,by omega⟩
 have hk4 : kI f ≠ 4:=by
  intro h4
  unfold Placed at hpl
  rw [h4] at hpl
  rcases hpl with h1 | h1
  · exact absurd h1.1 (by decide)
  · omega
 rw [if_neg hk4] at h5
 exact ⟨m,hm,by omega,by omega,by omega,by omega,by omega⟩
section
variable {w w' : World} {F : Nat → Prop} {tid : TypeId} {xs : List Value} {g n c : Nat}
theorem NumRow.slot (h : NumRow w F tid (.slice (some ⟨g,0,none⟩) n c) xs) {i : Nat} (hi : i < xs.length) : F g ∧ w.cell? ⟨g,i,none⟩ = some xs[i] ∧ (∀ o,w.frozen? ⟨g,o,none⟩ = false) ∧ g < w.heap.size:=by
 obtain ⟨g',cap,e,h1⟩:=h.cell hi
 injection e with e1 _ _
 injection e1 with e1
 injection e1 with e1 _ _
 subst e1
 obtain ⟨g',cap',cur,e,h2,h3,_⟩:=h.at hi
 injection e with e1 _ _
 injection e1 with e1
 injection e1 with e1 _ _
 subst e1
 exact ⟨h2,h1,h3.free,h3.lt⟩
end
theorem set_byteV {l : List UInt8} {i : Nat} {s : UInt8} (h : i < (l.set i s).length) : some (byteV ((l.set i s)[i]'h)) = some (.int .u8 ((s.toNat : Nat) : Int)):=by rw [List.getElem_set_self];rfl
theorem set_seqV {l : List Nat} {i q : Nat} (h : i < (l.set i q).length) : some (seqV ((l.set i q)[i]'h)) = some (.int .u32 (q : Int)):=by rw [List.getElem_set_self];rfl
theorem cell_heap {w w' : World} {g : Nat} (h : w'.heap[g]? = w.heap[g]?) (o : Nat) : w'.cell? ⟨g,o,none⟩ = w.cell? ⟨g,o,none⟩:=World.cell?_of_block (w:=w) (a:=⟨g,o,none⟩) h
set_option maxRecDepth 100000 in
set_option maxHeartbeats 8000000 in
theorem fgo_any (S : Nat → Prop) (x : Cfg) (fs : List FlTy.T) (N d : Nat) (B : Option Addr) (hN : fs.length = N) (n b : Int) (hb : IsInt b) (sv : UInt8) (q : Nat) (hq : q < 2 ^ 32) (D : Option Addr) (dq : Nat) (dat : List UInt8) (w : World) (hr : RdIn w S (.sl FlTy) fs [.slice B N d]) (hd : RdIn w S (.sl .byte) dat [.slice D dat.length dq]) :
 Calls Try.prog 15 #[x.val,.slice B N d,.int .i64 n,.int .i64 b,.int .u8 ((sv.toNat : Nat) : Int),.int .u32 (q : Int),.slice D dat.length dq] w fun e w'=>FlRes w.heap.size (goP x fs n b sv q dat) e w' ∧ Below w.heap.size w w':=by
 have HX:=Lib.hid (fun (w : World) (hr : RdIn w S (.sl FlTy) fs [.slice B N d])=>fcheck_any S x fs N d B hN w hr)
 have HF:=Lib.hid (fun (w : World) (hr : RdIn w S (.sl FlTy) fs [.slice B N d]) (hf : Fit8 fs)=>ffind_any S fs N d B hN n b hb hf w hr)
 have HFI:=Lib.hid (fun (w : World) (hr : RdIn w S (.sl FlTy) fs [.slice B N d]) (k : Nat) (hk : k < fs.length) (hc : flB x fs = true)=>first_any S x fs N d k B hk hN (fun i hi _=>flB_code hc i hi) w hr)
 have HON:=Lib.hid (fun (hc : flB x fs = true) (k : Nat) (hk : k < fs.length)=>((stB_iff hk).1 ((flB_iff.1 hc).2.2 k hk)).1)
 have HGP:=Lib.hid (fun (k i : Nat) (h : flB x fs = true) (h2 : fndP fs n b = some k) (hk : k < fs.length) (hb : b = fA fs[k] + (i : Int)) (hi : i < (fS fs[k]).length)=>goP_at (s:=sv) (q:=q) (dat:=dat) h h2 hk hb hi)
 have HG6 : Hid (flB x fs = true → fndP fs n b = none → goP x fs n b sv q dat = ([],6)):=fun h1 h2=>by unfold goP;rw [if_pos h1,h2]
 have HG8 : Hid (¬ flB x fs = true → goP x fs n b sv q dat = ([],8)):=fun h1=>by unfold goP;rw [if_neg h1]
 obtain ⟨mv,hmv⟩ : ∃ z,z = goP x fs n b sv q dat:=⟨_,rfl⟩
 rw [← hmv] at HG6 HG8 HGP ⊢
 have HQ32:=Lib.hid hq
 clear hmv hb hq
 obtain ⟨id,m',c,r,l,h⟩:=x
 unfold Cfg.val at *
 dsimp only at *
 have C0:=BoxOf.new w #[.int .u32 (id : Int),.int .i64 m',.int .i64 c,.int .i64 r,.int .i64 l,.int .i64 h] 24
 have t0:=Ext.alloc (Below.refl w.heap.size w) (.cells #[.int .u32 (id : Int),.int .i64 m',.int .i64 c,.int .i64 r,.int .i64 l,.int .i64 h] 24)
 have HR:=Lib.hid (hr.below t0)
 have HD:=Lib.hid (hd.below t0)
 have HNL:=Lib.hid hN
 clear hr hd hN
 go_enter Try.func15,Try.ntmps15
 go_upto_region 1 with fail
 generalize w.alloc (.cells #[.int .u32 (id : Int),.int .i64 m',.int .i64 c,.int .i64 r,.int .i64 l,.int .i64 h] 24) = W at *
 have x0:=C0.cell
 go_wp2_with fail
 refine (HX.out _ HR.out).mono ?_
 rintro e w1 ⟨he,b1⟩
 have t1:=Ext.trans t0 b1
 have C1:=C0.next b1
 clear x0
 rcases okbad_cases he with ⟨hk,rfl⟩ | ⟨hk,rfl⟩
 rotate_left
 · have hm:=HG8.out hk
   subst hm
   clear he hk
   go_wp2
   go_ret2
   exact ⟨FlRes.bad,t1⟩
 have HK:=Lib.hid hk
 have HFC:=Lib.hid (HF.out w1 (HR.out.below b1) (flB_fit hk))
 have HR1:=Lib.hid (HR.out.below b1)
 have HD1:=Lib.hid (HD.out.below b1)
 clear he hk HX HF HR HD C0 t0 b1 HG8
 go_wp2_with fail
 refine HFC.out.mono ?_
 rintro e w2 ⟨⟨av,iv,is,rfl,hno,hyes⟩,b2⟩
 have t2:=Ext.trans t1 b2
 have C2:=C1.next b2
 have x2:=C2.cell
 clear HFC
 cases is with
 | false=>
   have hm:=HG6.out HK.out (hno rfl)
   subst hm
   clear hno hyes
   go_wp2
   go_ret2
   exact ⟨FlRes.bad,t2⟩
 | true=>
 obtain ⟨k,hf,rfl,hk,i,rfl,hbi,hiM⟩:=hyes rfl
 obtain ⟨m,hfm,hm8,him,hls,hlq,hlb⟩:=oneB_len (HON.out HK.out k hk) hiM
 have hil0 : i < (fS (fs[k]'hk)).length:=by omega
 have HP:=HGP.out k i HK.out hf hk hbi hil0
 have HFK:=Lib.hid (HFI.out w2 (HR1.out.below b2) k hk HK.out)
 have HKL:=Lib.hid hk
 have HR2:=Lib.hid (HR1.out.below b2)
 have HD2:=Lib.hid (HD1.out.below b2)
 have HMV:=Lib.hid HP
 have HL:=Lib.hid (And.intro hm8 (And.intro him (And.intro hls (And.intro hlq hlb))))
 have HFE : Hid (fs[k]'hk = fs[k]'hk):=rfl
 clear hno hyes hf HGP HG6 hbi hiM HP HFI HR1 HD1 HON hfm hm8 him hls hlq hlb HFE
 go_wp2_with fail
 refine HFK.out.mono ?_
 rintro e w3 ⟨rfl,b3⟩
 have t3:=Ext.trans t2 b3
 have HR3:=Lib.hid (HR2.out.below b3)
 have HD3:=Lib.hid (HD2.out.below b3)
 clear x2 HR2 HD2 t1 t2 b2 HFK C1 C2
 obtain ⟨fi,hfi⟩ : ∃ z : Bool,z = firstB fs k:=⟨_,rfl⟩
 rw [← hfi] at HMV ⊢
 clear hfi
 cases fi with
 | false=>
   have hm : mv = ([],6):=by rw [HMV.out,if_neg (fun h=>by cases h.1)]
   subst hm
   go_wp2
   go_ret2
   exact ⟨FlRes.bad,t3⟩
 | true=>
 obtain ⟨bb,off,Ab,cb,As,cs,Aq,cq,Ax,cx,rfl,q0,q1,q2,q3,q4,q5,q6,q7,hints,rD,rS,rQ,rX⟩:=fl_at HR3.out HKL.out
 have hil : i < (fS (fs[k]'HKL.out)).length:=by have:=HL.out;omega
 obtain ⟨bs,os,rfl,k1⟩:=st_at rS hil
 have HST : Hid (mv = if ((fS (fs[k]'HKL.out))[i]'hil).toNat < sv.toNat then (if blkB (kI (fs[k]'HKL.out)) sv q dat.length = true then (fs.set k (fPut (fs[k]'HKL.out) i sv q dat),0) else ([],2)) else ([],6)):=by
  show _ = _
  rw [HMV.out]
  simp only [true_and]
 obtain ⟨st,hst⟩ : ∃ z : Nat,z = ((fS (fs[k]'HKL.out))[i]'hil).toNat:=⟨_,rfl⟩
 rw [← hst] at HST k1
 have HIL:=Lib.hid hil
 have hlS : (fS (fs[k]'HKL.out)).length = m:=HL.out.2.2.1
 rw [hlS] at q5
 have him : i < m:=HL.out.2.1
 have hkN : k < N:=by have:=HKL.out;have:=HNL.out;omega
 clear q0 q1 q2 q3 q4 q6 q7 hints rD rS rQ rX hst hlS HMV
 rcases Bool.eq_false_or_eq_true (decide (sv.toNat ≤ st)) with e1 | e1
 · have hm : mv = ([],6):=by rw [HST.out,if_neg];have:=of_decide_eq_true e1;omega
   subst hm
   go_wp2
   go_ret2
   exact ⟨FlRes.bad,t3⟩
 have HMV : Hid (mv = if blkB (kI (fs[k]'HKL.out)) sv q dat.length = true then (fs.set k (fPut (fs[k]'HKL.out) i sv q dat),0) else ([],2)):=by
  show _ = _
  rw [HST.out,if_pos];have:=of_decide_eq_false e1;omega
 have HTW:=Lib.hid (ftwin_any S fs N d (some ⟨bb,off,none⟩) HNL.out w3 HR3.out)
 clear HST
 go_wp2_with fail
 refine HTW.out.mono ?_
 rintro e w4 ⟨⟨v4,rfl,fn4⟩,b4⟩
 have t4:=Ext.trans t3 b4
 have HD4:=Lib.hid (HD3.out.below b4)
 clear q5 k1 e1 HTW HR3 HD3
 obtain ⟨g,cap,es,Sj,rfl,⟨hFg,hgb,hgl⟩,hcell,⟨vd,vs,vq,vx,hs,T,rfl,hE⟩,hSj,hclose⟩:=OwnE.at fn4 HKL.out
 have hlen : hs.length = m:=by have:=hE.len;have:=HL.out;omega
 have hkl:=HKL.out
 have hcB:=hclose
 clear hclose
 generalize fs[k] = f at *
 have hlS:=HL.out.2.2.1
 have hlQ:=HL.out.2.2.2.1
 have hlB:=HL.out.2.2.2.2
 obtain ⟨gs,cs',cur1,ee1,hSs,_⟩:=hE.st.at (i:=i) (by rw [List.length_map];omega)
 obtain ⟨gq,cq',cur2,ee2,hSq,_⟩:=hE.sq.at (i:=i) (by rw [List.length_map];omega)
 obtain ⟨gx,cx',cur3,ee3,hSx,_⟩:=hE.row.at (i:=i) (by omega)
 rw [List.length_map,hlS] at ee1
 rw [List.length_map,hlQ] at ee2
 rw [hlen] at ee3
 subst ee1 ee2 ee3
 obtain ⟨Ad,cd',eed⟩:=bytesV hE.dat
 subst eed
 have HSJ : Hid (∀ b,Sj b → (w3.heap.size ≤ b ∧ b < w4.heap.size) ∧ b ≠ g):=fun b hb=>⟨(hSj b hb).1,(hSj b hb).2⟩
 have HGS:=Lib.hid (hSj gs hSs).2
 have HGQ:=Lib.hid (hSj gq hSq).2
 have HGX:=Lib.hid (hSj gx hSx).2
 have HSS:=Lib.hid (And.intro hSs (And.intro hSq hSx))
 have HC8 : Hid (∀ w' : World,w'.heap[g]? = w4.heap[g]? → ∀ p,p < 8 → w'.cell? ⟨g,k * 8 + p,none⟩ = (flCells f (.slice Ad (fD f).length cd') (.slice (some ⟨gs,0,none⟩) m cs') (.slice (some ⟨gq,0,none⟩) m cq') (.slice (some ⟨gx,0,none⟩) m cx'))[p]?):=fun w' hw p hp=>by rw [cell_heap hw];exact hcell p hp
 have HS2 : Hid (∀ w' : World,w'.heap[g]? = w4.heap[g]? → (w'.cell? ⟨g,k * 8 + 2 + 3,none⟩ = some (.slice (some ⟨gs,0,none⟩) m cs') ∧ w'.cell? ⟨g,k * 8 + 3 + 3,none⟩ = some (.slice (some ⟨gq,0,none⟩) m cq') ∧ w'.cell? ⟨g,k * 8 + 4 + 3,none⟩ = some (.slice (some ⟨gx,0,none⟩) m cx'))):=fun w' hw=>⟨HC8.out w' hw 5 (by decide),HC8.out w' hw 6 (by decide),HC8.out w' hw 7 (by decide)⟩
 have HE4:=Lib.hid hE
 have HCL:=Lib.hid hcB
 have HHL:=Lib.hid hlen
 clear hcell hSj hcB fn4 hE hSs hSq hSx hFg hlen hlS hlQ hlB
 go_upto_region 9 with fail
 have HGL:=Lib.hid hgl
 clear hkl hgb hgl
 refine wp_region_held_drew (S:=fun w'=>w'.cell? ⟨g,k * 8 + 2 + 3,none⟩ = some (.slice (some ⟨gs,0,none⟩) m cs') ∧ w'.cell? ⟨g,k * 8 + 3 + 3,none⟩ = some (.slice (some ⟨gq,0,none⟩) m cq') ∧ w'.cell? ⟨g,k * 8 + 4 + 3,none⟩ = some (.slice (some ⟨gx,0,none⟩) m cx')) (by kernel_rfl) (HS2.out _ ((Ext.drew (Below.refl w4.heap.size w4)).block g HGL.out)) (fun hS=>?_)
 have bd:=Ext.drew (Below.refl w4.heap.size w4)
 have HDD:=Lib.hid (HD4.out.below bd)
 generalize w4.drew = wd at *
 refine wpAnyH_take (i:=0) (v:=?_) rfl (by kernel_rfl) (by kernel_rfl) (by kernel_rfl) (fun _ _ _ h=>h) (Or.inl ⟨by rfl,?_⟩) hS ?_
 rotate_left
 · (intro w hSw;(try dsimp only at hSw);go_simp;(try with_reducible rfl))
 rotate_left
 simp only [Act.put,zq0,zq1,zq2,zq3,zq4,zq5]
 refine wpAnyH_take (i:=1) (v:=?_) rfl (by kernel_rfl) (by kernel_rfl) (by kernel_rfl) (fun _ _ _ h=>h) (Or.inl ⟨by rfl,?_⟩) hS ?_
 rotate_left
 · (intro w hSw;(try dsimp only at hSw);go_simp;(try with_reducible rfl))
 rotate_left
 simp only [Act.put,zq0,zq1,zq2,zq3,zq4,zq5]
 refine wpAnyH_take (i:=2) (v:=?_) rfl (by kernel_rfl) (by kernel_rfl) (by kernel_rfl) (fun _ _ _ h=>h) (Or.inl ⟨by rfl,?_⟩) hS ?_
 rotate_left
 · (intro w hSw;(try dsimp only at hSw);go_simp;(try with_reducible rfl))
 rotate_left
 simp only [Act.put,zq0,zq1,zq2,zq3,zq4,zq5]
 refine wpAnyH_take (i:=3) (v:=?_) rfl (by kernel_rfl) (by kernel_rfl) (by kernel_rfl) (fun _ _ _ h=>h) (Or.inl ⟨by rfl,?_⟩) hS ?_
 rotate_left
 · (intro w hSw;(try dsimp only at hSw);go_simp;(try with_reducible rfl))
 rotate_left
 simp only [Act.put,zq0,zq1,zq2,zq3,zq4,zq5]
 refine wpAnyH_take (i:=4) (v:=?_) rfl (by kernel_rfl) (by kernel_rfl) (by kernel_rfl) (fun _ _ _ h=>h) (Or.inl ⟨by rfl,?_⟩) hS ?_
 rotate_left
 · (intro w hSw;(try dsimp only at hSw);go_simp;(try with_reducible rfl))
 rotate_left
 simp only [Act.put,zq0,zq1,zq2,zq3,zq4,zq5]
 refine wpAnyH_take (i:=5) (v:=?_) rfl (by kernel_rfl) (by kernel_rfl) (by kernel_rfl) (fun _ _ _ h=>h) (Or.inl ⟨by rfl,?_⟩) hS ?_
 rotate_left
 · (intro w hSw;(try dsimp only at hSw);go_simp;(try with_reducible rfl))
 rotate_left
 simp only [Act.put,zq0,zq1,zq2,zq3,zq4,zq5]
 refine wpAnyH_take (i:=6) (v:=?_) rfl (by kernel_rfl) (by kernel_rfl) (by kernel_rfl) (fun _ _ _ h=>h) (Or.inl ⟨by rfl,?_⟩) hS ?_
 rotate_left
 · (intro w hSw;(try dsimp only at hSw);go_simp;(try with_reducible rfl))
 rotate_left
 simp only [Act.put,zq0,zq1,zq2,zq3,zq4,zq5]
 refine wpAnyH_take (i:=7) (v:=?_) rfl (by kernel_rfl) (by kernel_rfl) (by kernel_rfl) (fun _ _ _ h=>h) (Or.inl ⟨by rfl,?_⟩) hS ?_
 rotate_left
 · (intro w hSw;(try dsimp only at hSw);go_simp;(try with_reducible rfl))
 rotate_left
 simp only [Act.put,zq0,zq1,zq2,zq3,zq4,zq5]
 refine wpAnyH_take (i:=8) (v:=?_) rfl (by kernel_rfl) (by kernel_rfl) (by kernel_rfl) (fun _ _ _ h=>h) (Or.inl ⟨by rfl,?_⟩) hS ?_
 rotate_left
 · (intro w hSw;(try dsimp only at hSw);go_simp;(try with_reducible rfl))
 rotate_left
 simp only [Act.put,zq0,zq1,zq2,zq3,zq4,zq5]
 refine wpAnyH_take (i:=9) (v:=?_) rfl (by kernel_rfl) (by kernel_rfl) (by kernel_rfl) (fun _ _ _ h=>h) (Or.inl ⟨by rfl,?_⟩) hS ?_
 rotate_left
 · (intro w hSw;(try dsimp only at hSw);go_simp;(try with_reducible rfl))
 rotate_left
 simp only [Act.put,zq0,zq1,zq2,zq3,zq4,zq5]
 refine wpAnyH_take (i:=10) (v:=?_) rfl (by kernel_rfl) (by kernel_rfl) (by kernel_rfl) (fun _ _ _ h=>h) (Or.inl ⟨by rfl,?_⟩) hS ?_
 rotate_left
 · (intro w hSw;(try dsimp only at hSw);go_simp;(try with_reducible rfl))
 rotate_left
 simp only [Act.put,zq0,zq1,zq2,zq3,zq4,zq5]
 refine wpAnyH_take (i:=11) (v:=?_) rfl (by kernel_rfl) (by kernel_rfl) (by kernel_rfl) (fun _ _ _ h=>h) (Or.inl ⟨by rfl,?_⟩) hS ?_
 rotate_left
 · (intro w hSw;(try dsimp only at hSw);go_simp;(try with_reducible rfl))
 rotate_left
 simp only [Act.put,zq0,zq1,zq2,zq3,zq4,zq5]
 refine wpAnyH_take (i:=12) (v:=?_) rfl (by kernel_rfl) (by kernel_rfl) (by kernel_rfl) (fun _ _ _ h=>h) (Or.inl ⟨by rfl,?_⟩) hS ?_
 rotate_left
 · (intro w hSw;(try dsimp only at hSw);go_simp;(try with_reducible rfl))
 rotate_left
 simp only [Act.put,zq0,zq1,zq2,zq3,zq4,zq5]
 refine wpAnyH_take (i:=13) (v:=?_) rfl (by kernel_rfl) (by kernel_rfl) (by kernel_rfl) (fun _ _ _ h=>h) (Or.inl ⟨by rfl,?_⟩) hS ?_
 rotate_left
 · (intro w hSw;(try dsimp only at hSw);go_simp;(try with_reducible rfl))
 rotate_left
 simp only [Act.put,zq0,zq1,zq2,zq3,zq4,zq5]
 refine wpAnyH_take (i:=14) (v:=?_) rfl (by kernel_rfl) (by kernel_rfl) (by kernel_rfl) (fun _ _ _ h=>h) (Or.inl ⟨by rfl,?_⟩) hS ?_
 rotate_left
 · (intro w hSw;(try dsimp only at hSw);go_simp;(try with_reducible rfl))
 rotate_left
 simp only [Act.put,zq0,zq1,zq2,zq3,zq4,zq5]
 refine wpAnyH_take (i:=15) (v:=?_) rfl (by kernel_rfl) (by kernel_rfl) (by kernel_rfl) (fun _ _ _ h=>h) (Or.inl ⟨by rfl,?_⟩) hS ?_
 rotate_left
 · (intro w hSw;(try dsimp only at hSw);go_simp;(try with_reducible rfl))
 rotate_left
 simp only [Act.put,zq0,zq1,zq2,zq3,zq4,zq5]
 refine wpAnyH_take (i:=16) (v:=?_) rfl (by kernel_rfl) (by kernel_rfl) (by kernel_rfl) (fun _ _ _ h=>h) (Or.inl ⟨by rfl,?_⟩) hS ?_
 rotate_left
 · (intro w hSw;(try dsimp only at hSw);go_simp;(try with_reducible rfl))
 rotate_left
 simp only [Act.put,zq0,zq1,zq2,zq3,zq4,zq5]
 refine wpAnyH_take (i:=17) (v:=?_) rfl (by kernel_rfl) (by kernel_rfl) (by kernel_rfl) (fun _ _ _ h=>h) (Or.inl ⟨by rfl,?_⟩) hS ?_
 rotate_left
 · (intro w hSw;(try dsimp only at hSw);go_simp;(try with_reducible rfl))
 rotate_left
 simp only [Act.put,zq0,zq1,zq2,zq3,zq4,zq5]
 refine wpAnyH_ready (rs:=[18]) (by kernel_rfl) (by simp) ?_
 refine AllReadyH.cons rfl (fun K hK=>?_) AllReadyH.nil
 rw [if_pos (by rfl)]
 go_simp
 refine (clone_any S dat D dq _ HDD.out).mono ?_
 rintro e w5 ⟨⟨vdd,rfl,rd5⟩,b5⟩
 obtain ⟨Au,cu,eu⟩:=bytesV rd5
 subst eu
 have b45:=Ext.trans bd b5
 have h5:=b45.block g HGL.out
 have E5:=HE4.out.frame (w':=w5) (fun b hb=>b45.block b (HSJ.out b hb).1.2)
 have F5 : Hid (∀ b,b < w4.heap.size → w5.heap[b]? = w4.heap[b]?):=fun b hb=>b45.block b hb
 have HB5:=Lib.hid b45
 have HLD:=Lib.hid (show w4.heap.size ≤ wd.heap.size from bd.size)
 have HRD:=Lib.hid rd5
 clear bd b5 rd5 b45 HE4
 refine hK.out _ _ (HS2.out _ h5) (fun hS'=>?_)
 clear hK K hS
 have hS:=hS'
 clear hS'
 try simp only [Act.put,zq0,zq1,zq2,zq3,zq4,zq5]
 refine wpAnyH_take (i:=19) (v:=?_) rfl (by kernel_rfl) (by kernel_rfl) (by kernel_rfl) (fun _ _ _ h=>h) (Or.inl ⟨by rfl,?_⟩) hS ?_
 rotate_left
 · (intro w hSw;(try dsimp only at hSw);go_simp;(try with_reducible rfl))
 rotate_left
 simp only [Act.put,zq0,zq1,zq2,zq3,zq4,zq5]
 refine wpAnyH_ready (rs:=[20]) (by kernel_rfl) (by simp) ?_
 refine AllReadyH.cons rfl (fun K hK=>?_) AllReadyH.nil
 rw [if_pos (by rfl)]
 obtain ⟨_,kc,kf,kl⟩:=E5.st.slot (i:=i) (by rw [List.length_map];exact HIL.out)
 go_simp
 have E6 : FlEs (w5.setCell ⟨gs,i,none⟩ (.int .u8 ((sv.toNat : Nat) : Int))) _ _ _ _ _ _ _ _:=E5.setS HIL.out sv
 have h6 : (w5.setCell ⟨gs,i,none⟩ (.int .u8 ((sv.toNat : Nat) : Int))).heap[g]? = w4.heap[g]?:=(Below.heap_setCell _ _ _ _ (show g ≠ gs from fun e=>HGS.out e.symm)).trans h5
 have F6 : Hid (∀ b,b < w4.heap.size → b ≠ gs → (w5.setCell ⟨gs,i,none⟩ (.int .u8 ((sv.toNat : Nat) : Int))).heap[b]? = w4.heap[b]?):=fun b hb hn=>(Below.heap_setCell _ _ _ _ hn).trans (F5.out b hb)
 have HB6:=Lib.hid (Below.setCell (p:=⟨gs,i,none⟩) (Ext.trans t4 HB5.out) (Nat.le_trans t3.size (HSJ.out gs HSS.out.1).1.1) (.int .u8 ((sv.toNat : Nat) : Int)))
 have R6:=HRD.out.frame (w':=w5.setCell ⟨gs,i,none⟩ (.int .u8 ((sv.toNat : Nat) : Int))) (fun b hb=>Below.heap_setCell _ _ _ _ (show b ≠ gs by have:=hb.1;have:=(HSJ.out gs HSS.out.1).1.2;have:=HLD.out;omega))
 have L6 : Hid (∀ b,NewB wd.heap.size w5 b → Live (w5.setCell ⟨gs,i,none⟩ (.int .u8 ((sv.toNat : Nat) : Int))) b):=fun b hb=>live_set hb.2.2 _ _
 have Z6 : (w5.setCell ⟨gs,i,none⟩ (.int .u8 ((sv.toNat : Nat) : Int))).heap.size = w5.heap.size:=msize _ _ _
 refine hK.out _ _ (HS2.out _ h6) (fun hS'=>?_)
 clear hK K hS kc kf kl E5 h5 F5
 have hS:=hS'
 clear hS'
 try simp only [Act.put,zq0,zq1,zq2,zq3,zq4,zq5]
 generalize w5.setCell ⟨gs,i,none⟩ (.int .u8 ((sv.toNat : Nat) : Int)) = w6 at *
 refine wpAnyH_take (i:=21) (v:=?_) rfl (by kernel_rfl) (by kernel_rfl) (by kernel_rfl) (fun _ _ _ h=>h) (Or.inl ⟨by rfl,?_⟩) hS ?_
 rotate_left
 · (intro w hSw;(try dsimp only at hSw);go_simp;(try with_reducible rfl))
 rotate_left
 simp only [Act.put,zq0,zq1,zq2,zq3,zq4,zq5]
 refine wpAnyH_ready (rs:=[22]) (by kernel_rfl) (by simp) ?_
 refine AllReadyH.cons rfl (fun K hK=>?_) AllReadyH.nil
 rw [if_pos (by rfl)]
 obtain ⟨_,kc,kf,kl⟩:=E6.sq.slot (i:=i) (by rw [List.length_map];have h1:=HL.out;show i < (fQ f).length;omega)
 go_simp
 have E7 : FlEs (w6.setCell ⟨gq,i,none⟩ (.int .u32 (q : Int))) _ _ _ _ _ _ _ _:=E6.setQ (show i < (fQ f).length by have h1:=HL.out;omega) q HQ32.out
 have h7 : (w6.setCell ⟨gq,i,none⟩ (.int .u32 (q : Int))).heap[g]? = w4.heap[g]?:=(Below.heap_setCell _ _ _ _ (show g ≠ gq from fun e=>HGQ.out e.symm)).trans h6
 have F7 : Hid (∀ b,b < w4.heap.size → b ≠ gs → b ≠ gq → (w6.setCell ⟨gq,i,none⟩ (.int .u32 (q : Int))).heap[b]? = w4.heap[b]?):=fun b hb hn hn2=>(Below.heap_setCell _ _ _ _ hn2).trans (F6.out b hb hn)
 have HB7:=Lib.hid (Below.setCell (p:=⟨gq,i,none⟩) HB6.out (Nat.le_trans t3.size (HSJ.out gq HSS.out.2.1).1.1) (.int .u32 (q : Int)))
 have R7:=R6.frame (w':=w6.setCell ⟨gq,i,none⟩ (.int .u32 (q : Int))) (fun b hb=>Below.heap_setCell _ _ _ _ (show b ≠ gq by have:=hb.1;have:=(HSJ.out gq HSS.out.2.1).1.2;have:=HLD.out;omega))
 have L7 : Hid (∀ b,NewB wd.heap.size w5 b → Live (w6.setCell ⟨gq,i,none⟩ (.int .u32 (q : Int))) b):=fun b hb=>live_set (L6.out b hb) _ _
 have Z7 : (w6.setCell ⟨gq,i,none⟩ (.int .u32 (q : Int))).heap.size = w5.heap.size:=(msize _ _ _).trans Z6
 refine hK.out _ _ (HS2.out _ h7) (fun hS'=>?_)
 clear hK K hS kc kf kl E6 h6 F6 R6 L6 Z6 HB6
 have hS:=hS'
 clear hS'
 try simp only [Act.put,zq0,zq1,zq2,zq3,zq4,zq5]
 generalize w6.setCell ⟨gq,i,none⟩ (.int .u32 (q : Int)) = w7 at *
 refine wpAnyH_take (i:=23) (v:=?_) rfl (by kernel_rfl) (by kernel_rfl) (by kernel_rfl) (fun _ _ _ h=>h) (Or.inl ⟨by rfl,?_⟩) hS ?_
 rotate_left
 · (intro w hSw;(try dsimp only at hSw);go_simp;(try with_reducible rfl))
 rotate_left
 simp only [Act.put,zq0,zq1,zq2,zq3,zq4,zq5]
 refine wpAnyH_ready (rs:=[24]) (by kernel_rfl) (by simp) ?_
 refine AllReadyH.cons rfl (fun K hK=>?_) AllReadyH.nil
 rw [if_pos (by rfl)]
 obtain ⟨_,kc,kf,kl⟩:=E7.row.slot (i:=i) (by have h1:=HL.out;have:=HHL.out;omega)
 go_simp
 have E8:=E7.setB (show i < (fB f).length by have h1:=HL.out;omega) R7 (fun b hb=>⟨fun hj=>by have:=hb.1;have:=(HSJ.out b hj).1.2;have:=HLD.out;omega,L7.out b hb⟩) E7.own
 have h8 : (w7.setCell ⟨gx,i,none⟩ (.slice Au dat.length cu)).heap[g]? = w4.heap[g]?:=(Below.heap_setCell _ _ _ _ (show g ≠ gx from fun e=>HGX.out e.symm)).trans h7
 have F8 : Hid (∀ b,b < w4.heap.size → b ≠ gs → b ≠ gq → b ≠ gx → (w7.setCell ⟨gx,i,none⟩ (.slice Au dat.length cu)).heap[b]? = w4.heap[b]?):=fun b hb hn hn2 hn3=>(Below.heap_setCell _ _ _ _ hn3).trans (F7.out b hb hn hn2)
 have t8:=Below.setCell (p:=⟨gx,i,none⟩) HB7.out (Nat.le_trans t3.size (HSJ.out gx HSS.out.2.2).1.1) (.slice Au dat.length cu)
 have Z8 : (w7.setCell ⟨gx,i,none⟩ (.slice Au dat.length cu)).heap.size = w5.heap.size:=(msize _ _ _).trans Z7
 refine hK.out _ _ (HS2.out _ h8) (fun hS'=>?_)
 clear hK K hS kc kf kl E7 h7 F7 R7 L7 Z7 HB7 hS'
 try simp only [Act.put,zq0,zq1,zq2,zq3,zq4,zq5]
 generalize w7.setCell ⟨gx,i,none⟩ (.slice Au dat.length cu) = w8 at *
 refine wpAnyH_done (by kernel_rfl) ?_ _
 have FNF:=HCL.out w8 (NewB wd.heap.size w5) (fPut f i sv q dat) ⟨_,_,_,_,_,_,rfl,E8⟩ (fun b hb hnb=>F8.out b hb.2 (fun e=>hnb (by rw [e];exact HSS.out.1)) (fun e=>hnb (by rw [e];exact HSS.out.2.1)) (fun e=>hnb (by rw [e];exact HSS.out.2.2))) (fun b hb hF=>by have:=hb.1;have:=hF.2;have:=HLD.out;omega)
 have HFN : Hid (FlNew w3.heap.size (fs.set k (fPut f i sv q dat)) (.slice (some ⟨g,0,none⟩) fs.length cap) w8):=FNF.mono fun b hb=>by
  have h1:=HB5.out.size
  rcases hb with hb | hb
  · exact ⟨hb.1,by rw [Z8];have:=hb.2;omega⟩
  · exact ⟨by have:=hb.1;have:=HLD.out;have:=b4.size;omega,by rw [Z8];exact hb.2.1⟩
 have ks : w8.cell? ⟨gs,0 + i,none⟩ = some (.int .u8 ((sv.toNat : Nat) : Int)):=by
  rw [Nat.zero_add]
  refine (E8.st.slot (i:=i) (by rw [List.length_map];show i < ((fS f).set i sv).length;rw [List.length_set];exact HIL.out)).2.1.trans ?_
  rw [List.getElem_map]
  exact set_byteV (l:=fS f) _
 have kq : w8.cell? ⟨gq,0 + i,none⟩ = some (.int .u32 (q : Int)):=by
  rw [Nat.zero_add]
  refine (E8.sq.slot (i:=i) (by rw [List.length_map];show i < ((fQ f).set i q).length;rw [List.length_set];have h1:=HL.out;omega)).2.1.trans ?_
  rw [List.getElem_map]
  exact set_seqV (l:=fQ f) _
 have kx : w8.cell? ⟨gx,0 + i,none⟩ = some (.slice Au dat.length cu):=by
  rw [Nat.zero_add]
  refine (E8.row.slot (i:=i) (by rw [List.length_set];have h1:=HL.out;have:=HHL.out;omega)).2.1.trans ?_
  rw [List.getElem_set_self]
 have him2 : i < m:=HL.out.2.1
 have HBK:=Lib.hid (fblock_any (fN f) (kI f) (fA f) (fM f) Ad (fD f).length cd' m cs' m cq' m cx' i sv.toNat q dat.length cu gs 0 gq 0 gx 0 Au w8 him2 him2 him2 (by unfold maxLen;have:=HL.out.1;omega) ks kq kx)
 have y0 : w8.cell? ⟨g,k * 8,none⟩ = some (.int .i64 (fN f)):=HC8.out w8 h8 0 (by decide)
 have y1 : w8.cell? ⟨g,k * 8 + 1,none⟩ = some (.int .u8 (kI f)):=HC8.out w8 h8 1 (by decide)
 have y2 : w8.cell? ⟨g,k * 8 + 2,none⟩ = some (.int .i64 (fA f)):=HC8.out w8 h8 2 (by decide)
 have y3 : w8.cell? ⟨g,k * 8 + 3,none⟩ = some (.int .i64 (fM f)):=HC8.out w8 h8 3 (by decide)
 have y4 : w8.cell? ⟨g,k * 8 + 4,none⟩ = some (.slice Ad (fD f).length cd'):=HC8.out w8 h8 4 (by decide)
 have y5 : w8.cell? ⟨g,k * 8 + 5,none⟩ = some (.slice (some ⟨gs,0,none⟩) m cs'):=HC8.out w8 h8 5 (by decide)
 have y6 : w8.cell? ⟨g,k * 8 + 6,none⟩ = some (.slice (some ⟨gq,0,none⟩) m cq'):=HC8.out w8 h8 6 (by decide)
 have y7 : w8.cell? ⟨g,k * 8 + 7,none⟩ = some (.slice (some ⟨gx,0,none⟩) m cx'):=HC8.out w8 h8 7 (by decide)
 have HBL : Hid (blkP (kI f) sv.toNat q dat.length = blkB (kI f) sv q dat.length):=rfl
 have HT3:=Lib.hid t3.size
 have HNL2 : Hid ((fs.set k (fPut f i sv q dat)).length = fs.length):=by show _ = _;rw [List.length_set]
 clear E8 F8 h8 Z8 FNF ks kq kx HB5 HSJ HGS HGQ HGX HSS HRD HLD t3 t4 b4 b3 HS2 HC8
 go_wp2_with fail
 refine HBK.out.mono ?_
 rintro e w9 ⟨rfl,b9⟩
 have t9:=Ext.trans t8 b9
 have HFN9 : Hid (FlNew w3.heap.size (fs.set k (fPut f i sv q dat)) (.slice (some ⟨g,0,none⟩) fs.length cap) w9):=OwnE.step HFN.out b9
 clear y0 y1 y2 y3 y4 y5 y6 y7 HBK HFN t8
 obtain ⟨bk,hbk⟩ : ∃ z : Bool,z = blkP (kI f) sv.toNat q dat.length:=⟨_,rfl⟩
 rw [← hbk] at HBL ⊢
 clear hbk
 cases bk with
 | false=>
   have hm : mv = ([],2):=by rw [HMV.out,if_neg];rw [← HBL.out];exact Bool.false_ne_true
   subst hm
   go_wp2
   go_ret2
   exact ⟨FlRes.bad,t9⟩
 | true=>
   have hm : mv = (fs.set k (fPut f i sv q dat),0):=by rw [HMV.out,if_pos HBL.out.symm]
   subst hm
   go_wp2
   go_ret2
   exact ⟨FlRes.mk HNL2.out (HFN9.out.low HT3.out),t9⟩
end Go.Proofs.Ythapabjlhooglaa
namespace Go.Proofs.Ythapabjlhooglaa
open Go Go.RowKit Go.Shelf Go.Maps
set_option linter.unusedSimpArgs false
set_option linter.unusedVariables false
attribute [local go_sem] Oper.semAt_some
def KeepB (B : Nat → Prop) (W W' : World) : Prop:=∀ (p : Addr) (v : Value),B p.block → W.cell? p = some v → W'.cell? p = some v
theorem KeepB.refl (B : Nat → Prop) (W : World) : KeepB B W W:=fun _ _ _ h=>h
theorem KeepB.trans {B : Nat → Prop} {A C D : World} (h : KeepB B A C) (k : KeepB B C D) : KeepB B A D:=fun p v hp hv=>k p v hp (h p v hp hv)
end Go.Proofs.Ythapabjlhooglaa
namespace Go.Proofs.Ythapabjlhooglaa
open Go Go.RowKit Go.Maps
set_option linter.unusedSimpArgs false
set_option linter.unusedVariables false
def Row8 (W : World) (S : Nat → Prop) (wr : World) (base : Nat) (v : Value) (xs : List FlTy.T) : Prop:=
 ∃ ess : List (List Value),(∀ es ∈ ess,es.length = 8) ∧ ess.length = xs.length ∧ (∀ i (h : i < xs.length) (h' : i < ess.length),RdIn W S FlTy xs[i] ess[i]) ∧ wr.ownsRow base 67 8 v xs.length ess.flatten
section
variable {W wr w' : World} {S : Nat → Prop} {base : Nat} {v : Value} {xs : List FlTy.T}
theorem Row8.nil : Row8 W S wr base (.slice none 0 0) []:=⟨[],by simp,rfl,fun i h=>absurd h (by simp),by simp,.inl ⟨rfl,rfl⟩⟩
theorem Row8.slice (h : Row8 W S wr base v xs) : ∃ A c,v = .slice A xs.length c:=by
 obtain ⟨ess,_,_,_,h4⟩:=h
 exact own_form h4
theorem Row8.lt (h : Row8 W S wr base v xs) : ∀ r,v.ownBlock = some r → r < wr.heap.size:=by
 obtain ⟨ess,_,_,_,h4⟩:=h
 exact fun r hr=>own_lt h4 hr
theorem Row8.keep (h : Row8 W S wr base v xs) (hf : ∀ r,v.ownBlock = some r → w'.heap[r]? = wr.heap[r]?) : Row8 W S w' base v xs:=by
 obtain ⟨ess,h1,h2,h3,h4⟩:=h
 exact ⟨ess,h1,h2,h3,own_frame h4 hf⟩
theorem Row8.next (h : Row8 W S wr base v xs) (hb : Below wr.heap.size wr w') : Row8 W S w' base v xs:=h.keep fun r hr=>hb.block r (h.lt r hr)
theorem Row8.rd (h : Row8 W S wr base v xs) (hb : Below W.heap.size W wr) (hz : xs.length * 128 ≤ 140737488355328) : RdIn wr (fun _=>True) (.sl FlTy) xs [v]:=by
 obtain ⟨ess,_,h2,h3,h4⟩:=h
 exact rdin_own8 (T:=S) h2 h4 (fun i h5 h6=>(h3 i h5 h6).below hb) hz
end
section
variable {P : Program}
end
end Go.Proofs.Ythapabjlhooglaa
namespace Go.Proofs.Ythapabjlhooglaa
open Go Go.RowKit Go.Maps
set_option linter.unusedSimpArgs false
set_option linter.unusedVariables false
abbrev RpL : Type:=Int × List UInt8 × Int
def rpE : ElemP RpL 4 where
 E:=fun w S x es=>∃ v,es = [.int .i64 x.1,.int .i64 0,v,.int .i64 x.2.2] ∧ RdIn w S (.sl .byte) x.2.1 [v]
 frame:=by
  rintro w w' S x es ⟨v,rfl,h⟩ hf
  exact ⟨v,rfl,h.frame hf⟩
 mono:=by
  rintro w S S' x es ⟨v,rfl,h⟩ hS
  exact ⟨v,rfl,h.mono hS⟩
 len:=by rintro w S x es ⟨v,rfl,h⟩;rfl
 plain:=by
  rintro w S x es ⟨v,rfl,h⟩ u hu
  obtain ⟨A,c,rfl⟩:=bytesV h
  simp only [List.mem_cons,List.not_mem_nil,or_false] at hu
  rcases hu with rfl | rfl | rfl | rfl <;> rfl
def Told (lo : Nat) (rs : List RpL) (v : Value) (w : World) : Prop:=OwnE rpE w (Iv lo w.heap.size) lo 63 v rs
def DoneRes (lo : Nat) (r : List FlTy.T × List RpL × Int) (e : Ending) (w : World) : Prop:=∃ A c A2 c2,e = .returned (.tuple #[.slice A r.1.length c,.slice A2 r.2.1.length c2,.int .i64 r.2.2]) ∧ FlNew lo r.1 (.slice A r.1.length c) w ∧ Told lo r.2.1 (.slice A2 r.2.1.length c2) w
theorem DoneRes.bad {lo : Nat} {v : Int} {w : World} : DoneRes lo ([],[],v) (.returned (.tuple #[.slice none 0 0,.slice none 0 0,.int .i64 v])) w:=⟨none,0,none,0,rfl,OwnE.nil _ _ _ _ _,OwnE.nil _ _ _ _ _⟩
theorem DoneRes.mk {lo L1 L2 c c2 : Nat} {outs : List FlTy.T} {rs : List RpL} {A A2 : Option Addr} {v : Int} {w : World} (h1 : outs.length = L1) (h2 : rs.length = L2) (hf : FlNew lo outs (.slice A L1 c) w) (ht : Told lo rs (.slice A2 L2 c2) w) : DoneRes lo (outs,rs,v) (.returned (.tuple #[.slice A L1 c,.slice A2 L2 c2,.int .i64 v])) w:=by
 subst h1 h2
 exact ⟨A,c,A2,c2,rfl,hf,ht⟩
end Go.Proofs.Ythapabjlhooglaa
namespace Go.Proofs.Ythapabjlhooglaa
open Go Go.RowKit
set_option linter.unusedSimpArgs false
set_option linter.unusedVariables false
theorem FlRes.of {lo L : Nat} {r : List FlTy.T × Int} {outs : List FlTy.T} {v : Int} {e : Ending} {w : World} (h : FlRes lo r e w) (hr : r = (outs,v)) (hl : outs.length = L) : ∃ A c,e = .returned (.tuple #[.slice A L c,.int .i64 v]) ∧ FlNew lo outs (.slice A L c) w:=by
 subst hr hl
 exact h
theorem DoneRes.of {lo L L2 : Nat} {r : List FlTy.T × List RpL × Int} {outs : List FlTy.T} {rs : List RpL} {v : Int} {e : Ending} {w : World} (h : DoneRes lo r e w) (hr : r = (outs,rs,v)) (hl : outs.length = L) (hl2 : rs.length = L2) : ∃ A c A2 c2,e = .returned (.tuple #[.slice A L c,.slice A2 L2 c2,.int .i64 v]) ∧ FlNew lo outs (.slice A L c) w ∧ Told lo rs (.slice A2 L2 c2) w:=by
 subst hr hl hl2
 exact h
theorem FlNew.rd {lo : Nat} {fs : List FlTy.T} {v : Value} {w : World} (h : FlNew lo fs v w) (hz : fs.length * 128 ≤ 140737488355328) : RdIn w (NewB lo w) (.sl FlTy) fs [v]:=OwnE.fl_rd h hz
theorem FlNew.step {lo : Nat} {fs : List FlTy.T} {v : Value} {w w' : World} (h : FlNew lo fs v w) (hb : Below w.heap.size w w') : FlNew lo fs v w':=OwnE.step h hb
end Go.Proofs.Ythapabjlhooglaa
namespace Go.Proofs.Ythapabjlhooglaa
open Go Go.RowKit
set_option linter.unusedSimpArgs false
set_option linter.unusedVariables false
def AnyB (e : Ending) : Prop:=∃ b : Bool,e = .returned (.bool b)
set_option maxRecDepth 100000 in
set_option maxHeartbeats 8000000 in
theorem fgreat_any (S : Nat → Prop) (fs : List FlTy.T) (N d : Nat) (B : Option Addr) (hN : fs.length = N) (w : World) (hr : RdIn w S (.sl FlTy) fs [.slice B N d]) :
 Calls Try.prog 8 #[.slice B N d] w fun e w'=>AnyB e ∧ Below w.heap.size w w':=by
 have HN:=Lib.hid hN
 have HNM : Hid (N ≤ maxLen):=by have:=fl_max hr;show N ≤ maxLen;omega
 have HG:=Lib.hid hr
 clear hr hN
 go_enter Try.func8,Try.ntmps8
 rcases Bool.eq_false_or_eq_true (decide ((50 : Int) < (N : Int))) with e0 | e0
 · go_wp2
   go_ret
   exact ⟨⟨_,rfl⟩,Below.refl _ _⟩
 go_wp2
 clear e0
 have bo:=Below.refl w.heap.size w
 go_loopw [3] (fun i wr=>∃ j : Nat,j ≤ N ∧ i = .int .i64 (j : Int) ∧ Below w.heap.size w wr) (fun i _=>N - (intOf i).toNat)
 case atStart=>exact ⟨0,Nat.zero_le _,rfl,bo⟩
 case round=>
  obtain ⟨j,hj,rfl,b2⟩:=hrel
  clear bo
  by_cases hlt : j < N
  · have hlf : j < fs.length:=by have:=HN.out;omega
    obtain ⟨b,off,Ab,cb,As,cs,Aq,cq,Ax,cx,rfl,q0,q1,q2,q3,q4,q5,q6,q7,hi,r1,r2,r3,r4⟩:=fl_at (HG.out.below b2) hlf
    have HWJ:=next_wrap HNM.out hlt
    have HLF:=Lib.hid hlf
    have HV:=Lib.hid (view2 r4)
    have HR4:=Lib.hid r4
    obtain ⟨wo,hwo⟩ : ∃ z : World,z = wr:=⟨_,rfl⟩
    rcases Bool.eq_false_or_eq_true (decide ((5000 : Int) < ((fD fs[j]).length : Int))) with e1 | e1
    · generalize fs[j] = g at *
      go_wp2
      go_ret
      exact ⟨⟨_,rfl⟩,b2⟩
    rcases Bool.eq_false_or_eq_true (decide ((100 : Int) < ((fS fs[j]).length : Int))) with e2 | e2
    · generalize fs[j] = g at *
      go_wp2
      go_ret
      exact ⟨⟨_,rfl⟩,b2⟩
    rcases Bool.eq_false_or_eq_true (decide ((100 : Int) < ((fQ fs[j]).length : Int))) with e3 | e3
    · generalize fs[j] = g at *
      go_wp2
      go_ret
      exact ⟨⟨_,rfl⟩,b2⟩
    rcases Bool.eq_false_or_eq_true (decide ((100 : Int) < ((fB fs[j]).length : Int))) with e4 | e4
    · generalize fs[j] = g at *
      go_wp2
      go_ret
      exact ⟨⟨_,rfl⟩,b2⟩
    clear HV
    generalize fs[j] = g at *
    go_wp2
    have HE4 : Hid ((fB g).length ≤ 100):=by have:=of_decide_eq_false e4;show _ ≤ _;omega
    clear e1 e2 e3 e4 q0 q1 q2 q3 q4 q5 q6 r1 r2 r3 r4 hi
    rw [← hwo] at b2 q7 HR4
    have bo : Below wo.heap.size wo wr:=by rw [hwo];exact Below.refl _ _
    have LB:=cell_lt q7
    have HQ7:=Lib.hid q7
    clear hwo q7
    go_loopw [4] (fun i wq=>∃ k : Nat,k ≤ (fB g).length ∧ i = .int .i64 (k : Int) ∧ Below wo.heap.size wo wq) (fun i _=>(fB g).length - (intOf i).toNat)
    case atStart=>exact ⟨0,Nat.zero_le _,rfl,bo⟩
    case round=>
     obtain ⟨k,hk,rfl,b3⟩:=hrel
     clear bo
     have q7 : wr.cell? ⟨b,off + j * 8 + 7,none⟩ = some (.slice Ax (fB g).length cx):=by rw [b3.cell (p:=⟨b,off + j * 8 + 7,none⟩) LB];exact HQ7.out
     by_cases hlk : k < (fB g).length
     · obtain ⟨A9,c9,e9,_,_,hv⟩:=view2 (HR4.out.below b3)
       injection e9 with e9 _ _
       subst e9
       obtain ⟨b5,o5,rfl,_,hv⟩:=hv (by omega)
       obtain ⟨A6,c6,p6,_⟩:=hv k hlk
       have HWK : Hid (wrap64 ((k : Int) + 1) = ((k + 1 : Nat) : Int)):=next_wrap (show 100 ≤ maxLen by decide) (by have:=HE4.out;omega)
       have HLK:=Lib.hid hlk
       clear hv
       rcases Bool.eq_false_or_eq_true (decide ((1000 : Int) < ((fB g)[k].length : Int))) with e5 | e5
       · generalize (fB g)[k] = gk at *
         go_wp2
         go_ret
         exact ⟨⟨true,by rfl⟩,Ext.trans b2 b3⟩
       · generalize (fB g)[k] = gk at *
         go_wp2
         try rw [HWK.out]
         exact ⟨⟨k + 1,HLK.out,by first | rfl | go_num,b3⟩,by simp [intOf];have:=HLK.out;omega⟩
     · have hk' : k = (fB g).length:=by omega
       generalize (fB g).length = gl at *
       subst hk'
       have b4:=Ext.trans b2 b3
       clear HE4
       go_wp2
       try rw [HWJ.out]
       exact ⟨⟨j + 1,hlt,by first | rfl | go_num,b4⟩,by simp [intOf];omega⟩
  · have hj' : j = N:=by omega
    subst hj'
    go_wp2
    go_ret
    exact ⟨⟨_,rfl⟩,b2⟩
end Go.Proofs.Ythapabjlhooglaa
namespace Go.Proofs.Ythapabjlhooglaa
open Go Go.RowKit
set_option linter.unusedSimpArgs false
set_option linter.unusedVariables false
section
variable {x : Cfg} {fs : List FlTy.T} {n b : Int} {k i : Nat} {dat : List UInt8}
theorem fl_mono (h : flB x fs = true) : ∀ (j i : Nat) (hj : j < fs.length) (hi : i < j),fN (fs[i]'(by omega)) < fN fs[j]
 | 0,i,_,hi=>absurd hi (Nat.not_lt_zero _)
 | j + 1,i,hj,hi=>by
   have h1:=((stB_iff hj).1 ((flB_iff.1 h).2.2 _ hj)).2.1 (by omega)
   have h1 : fN (fs[j]'(by omega)) < fN fs[j + 1]:=h1
   by_cases e : i = j
   · subst e;exact h1
   · exact Int.lt_trans (fl_mono h j i (by omega) (by omega)) h1
theorem fl_uniq (h : flB x fs = true) {i j : Nat} (hi : i < fs.length) (hj : j < fs.length) (e : fN fs[i] = fN fs[j]) : i = j:=by
 rcases Nat.lt_trichotomy i j with h1 | h1 | h1
 · have:=fl_mono h j i hj h1;omega
 · exact h1
 · have:=fl_mono h i j hi h1;omega
theorem fl_idx (h : flB x fs = true) (hk : k < fs.length) (e : fN fs[k] = n) : fs.findIdx? (numF n) = some k:=
 List.findIdx?_eq_some_iff_getElem.2 ⟨hk,by simp [numF,e],fun j hj=>by
  intro h2
  have h3 : fN (fs[j]'(by omega)) = n:=by simpa [numF] using h2
  have:=fl_uniq h (by omega) hk (h3.trans e.symm)
  omega⟩
end
end Go.Proofs.Ythapabjlhooglaa
