/- What this claim needs of my texts, merged and shortened by a program (part 5). -/
import Derived.BigQuiet
import Derived.Test.YtclbihcggjjgaaaZModelGoes4
namespace Go.Proofs.Ytclbihcggjjgaaa
open Go Go.RowKit
set_option linter.unusedSimpArgs false
set_option linter.unusedVariables false
theorem eqi_none (w : World) (n c : Nat) : (binOp .eql 62 (.slice none n c) (.slice none 0 0)).run Try.prog w = .ok (.bool true) w:=by kernel_rfl
theorem eqi_some (w : World) (a : Addr) (n c : Nat) : (binOp .eql 62 (.slice (some a) n c) (.slice none 0 0)).run Try.prog w = .ok (.bool false) w:=by kernel_rfl
theorem ints_rd {w : World} {S : Nat → Prop} {ms : List Int} {A : Option Addr} {n c : Nat} (h : RdIn w S (.sl .int) ms [.slice A n c]) : ms.length = n ∧ Rd w A (ms.map fun x=>Value.int .i64 x):=by
 have h1:=RdIn.row (e:=.int) rfl h
 exact ⟨h1.1,h1.2⟩
theorem ints_all {w : World} {S : Nat → Prop} {ms : List Int} {v : Value} (h : RdIn w S (.sl .int) ms [v]) : (∀ x ∈ ms,IsInt x) ∧ ms.length * 8 ≤ 140737488355328:=by
 obtain ⟨A,c,_,_,_,hz,hh⟩:=rdin_sl.1 h
 refine ⟨fun x hx=>?_,hz⟩
 rcases hh with h0 | ⟨b,off,_,_,hc⟩
 · have h1 : ms = []:=h0
   rw [h1] at hx;cases hx
 · obtain ⟨i,hi,rfl⟩:=List.getElem_of_mem hx
   obtain ⟨es,_,hr⟩:=hc i hi
   exact (rdin_int.1 hr).2
set_option maxRecDepth 100000 in
set_option maxHeartbeats 1000000 in
theorem clonei_any (S : Nat → Prop) (ms : List Int) (A : Option Addr) (c : Nat) (w : World) (h : RdIn w S (.sl .int) ms [.slice A ms.length c]) :
 Calls Try.prog 66 #[.slice A ms.length c] w fun e w'=>(∃ v,e = .returned v ∧ MarksO w' (Iv w.heap.size w'.heap.size) 3 v ms) ∧ Below w.heap.size w w':=by
 obtain ⟨i0,hi,hz0,hz1,hz2⟩:=minfo_int
 have hrd0:=(ints_rd h).2
 have HM:=Lib.hid (And.intro (mark_max h) (ints_all h).2)
 cases A with
 | none=>
   have hb0 : ms = []:=by
    rcases hrd0 with h0 | ⟨b,off,e,_⟩
    · simpa using h0
    · cases e
   subst hb0
   have HE:=fun (w : World) (c : Nat)=>eqi_none w 0 c
   clear h hrd0
   go_enter Try.func66,Try.ntmps66
   go_wp2
   go_ret
   exact ⟨⟨_,rfl,.inl ⟨rfl,none,0,rfl,by unfold maxLen;omega⟩⟩,Below.refl _ _⟩
 | some a=>
   have t0:=Ext.alloc (Below.refl w.heap.size w) (.cells #[] 3)
   have hrd : Rd (w.alloc (.cells #[] 3)) (some a) (ms.map fun x=>Value.int .i64 x):=(ints_rd (h.below t0)).2
   have own0 : (w.alloc (.cells #[] 3)).ownsRow w.heap.size 3 1 (.slice (some ⟨w.heap.size,0,none⟩) 0 0) 0 []:=⟨rfl,.inr ⟨w.heap.size,0,#[],rfl,Nat.le_refl _,heap_alloc_new _ _,Nat.le_refl _,by unfold maxLen;omega,rfl,rfl⟩⟩
   have HE:=fun (w : World) (n c : Nat)=>eqi_some w a n c
   clear h hrd0
   go_enter Try.func66,Try.ntmps66
   go_upto_region 3 with fail
   go_wp2_with (at_builtin;refine wpList_append_rd _ rfl (.tmp 5) (.tmp 6) 62 rfl w.heap.size 3 i0 _ 1 8 Try.underlying62 hi hz0 hz1 hz2 rfl (by decide) _ 0 [] rfl own0 (some a) ms.length c (ms.map fun x=>Value.int .i64 x) rfl (by simp) hrd (by intro u hu;rw [List.mem_map] at hu;obtain ⟨y,_,rfl⟩:=hu;rfl) (by have:=HM.out.1;omega) (by have:=HM.out.2;omega) (by simp) ?_;intro v1 w1 h2 h3 h4)
   rw [Nat.zero_add,List.nil_append] at h2
   have b1:=Below.grown t0 h3 (by simp) (fun k e=>by cases e;exact Nat.le_refl _)
   have hm : MarksO w1 (Iv w.heap.size w1.heap.size) 3 v1 ms:=by
    rcases h2.2 with ⟨rfl,h0⟩ | ⟨g,cap,cur,rfl,hg,hh,h5,h6,h7,h8⟩
    · exact .inl ⟨List.eq_nil_of_length_eq_zero h0,none,0,rfl,by unfold maxLen;omega⟩
    · exact .inr ⟨g,cap,cur,rfl,⟨hg,(Array.getElem?_eq_some_iff.1 hh).1⟩,hh,h5,h6,by rw [h7,Nat.mul_one],by rw [Nat.mul_one] at h8;exact h8⟩
   go_ret
   exact ⟨⟨_,rfl,hm⟩,b1⟩
theorem bytesE_new {w0 w w' : World} {bs : List UInt8} {v : Value} (h : RdIn w (NewB w0.heap.size w) (.sl .byte) bs [v]) (hb : Below w.heap.size w w') : bytesE.E w' (Iv w0.heap.size w'.heap.size) bs [v]:=
 ⟨v,rfl,(h.below hb).mono fun b hb'=>⟨⟨hb'.1,Nat.lt_of_lt_of_le hb'.2.1 hb.size⟩,hb'.2.2.below hb⟩⟩
theorem OwnE.base0 {α : Type} {n : Nat} {P : ElemP α n} {w : World} {F : Nat → Prop} {base base' : Nat} {tid : TypeId} {v : Value} {xs : List α} (h : OwnE P w F base tid v xs) (hb : base' ≤ base) : OwnE P w F base' tid v xs:=by
 obtain ⟨ess,Sf,h1,h2,h3,h4,h5,h6⟩:=h
 exact ⟨ess,Sf,h1,h2,h3,h4,h5,own_base h6 hb⟩
theorem MarksO.slice {w : World} {S : Nat → Prop} {tid : TypeId} {u : Value} {ms : List Int} (h : MarksO w S tid u ms) : ∃ A c,u = .slice A ms.length c:=by
 rcases h with ⟨rfl,A,c,rfl,_⟩ | ⟨g,cap,cur,rfl,_⟩
 · exact ⟨A,c,rfl⟩
 · exact ⟨_,_,rfl⟩
theorem MarksO.mono {w : World} {S S' : Nat → Prop} {tid : TypeId} {u : Value} {ms : List Int} (h : MarksO w S tid u ms) (hS : ∀ b,S b → S' b) : MarksO w S' tid u ms:=by
 rcases h with h | ⟨g,cap,cur,e,hg,hr⟩
 · exact .inl h
 · exact .inr ⟨g,cap,cur,e,hS g hg,hr⟩
theorem MarksO.frame {w w' : World} {S : Nat → Prop} {tid : TypeId} {u : Value} {ms : List Int} (h : MarksO w S tid u ms) (hf : ∀ b,S b → w'.heap[b]? = w.heap[b]?) : MarksO w' S tid u ms:=by
 rcases h with h | ⟨g,cap,cur,e,hg,hh,hr⟩
 · exact .inl h
 · exact .inr ⟨g,cap,cur,e,hg,by rw [hf g hg];exact hh,hr⟩
theorem MarksO.ne {w : World} {lo hi : Nat} {tid : TypeId} {u : Value} {ms : List Int} (h : MarksO w (Iv lo hi) tid u ms) {b : Nat} (hb : b < lo) : ms = [] ∨ u.ownBlock ≠ some b:=by
 rcases h with ⟨h,_⟩ | ⟨g,cap,cur,rfl,hg,_⟩
 · exact .inl h
 · refine .inr fun e=>?_
   have e' : g = b:=Option.some.inj e
   have:=hg.1
   omega
theorem MarksO.setLo {w : World} {lo : Nat} {tid : TypeId} {u : Value} {ms : List Int} (h : MarksO w (Iv (lo + 1) w.heap.size) tid u ms) (i : Nat) (v : Value) : MarksO (w.setCell ⟨lo,i,none⟩ v) (Iv (lo + 1) (w.setCell ⟨lo,i,none⟩ v).heap.size) tid u ms:=by
 rw [msize]
 exact h.frame fun b hb=>Below.heap_setCell _ _ _ _ (show b ≠ lo by have:=hb.1;omega)
theorem RdIn.setLo {w : World} {lo : Nat} {Q : Nat → Prop} {t : Ty} {x : t.T} {cs : List Value} (h : RdIn w (fun b=>(Iv (lo + 1) w.heap.size b ∧ Live w b) ∧ Q b) t x cs) (i : Nat) (v : Value) : RdIn (w.setCell ⟨lo,i,none⟩ v) (fun b=>(Iv (lo + 1) (w.setCell ⟨lo,i,none⟩ v).heap.size b ∧ Live (w.setCell ⟨lo,i,none⟩ v) b) ∧ Q b) t x cs:=by
 rw [msize]
 exact (h.frame fun b hb=>Below.heap_setCell _ _ _ _ (show b ≠ lo by have:=hb.1.1.1;omega)).mono fun b hb=>⟨⟨hb.1.1,hb.1.2.set _ _⟩,hb.2⟩
def TwinIs (lo : Nat) (ys : List (List (List UInt8))) (gs : List GoTy.T) (e : Ending) (w : World) : Prop:=
 ∃ (vy vg : Value) (m : Nat),e = .returned (.agg #[vy,vg]) ∧ lo ≤ m ∧ m ≤ w.heap.size ∧ OwnE (listE 29) w (Iv lo m) lo 30 vy ys ∧ OwnE (goE 3) w (Iv m w.heap.size) m 64 vg gs
set_option maxRecDepth 100000 in
set_option maxHeartbeats 4000000 in
theorem stwin_any (S : Nat → Prop) (ys : List (List (List UInt8))) (gs : List GoTy.T) (A : Option Addr) (c : Nat) (B : Option Addr) (d : Nat) (w : World) (hy : RdIn w S (.sl (.sl (.sl .byte))) ys [.slice A ys.length c]) (hg : RdIn w S (.sl GoTy) gs [.slice B gs.length d]) :
 Calls Try.prog 33 #[.agg #[.slice A ys.length c,.slice B gs.length d]] w fun e w'=>TwinIs w.heap.size ys gs e w' ∧ Below w.heap.size w w':=by
 obtain ⟨iu,hu,hu0,hu1,hu2⟩:=minfo_u8
 obtain ⟨ib,hib,hb0,hb1,hb2⟩:=minfo_bytes
 obtain ⟨il,hil,hl0,hl1,hl2⟩:=minfo_lists
 obtain ⟨ii,hii,hi0,hi1,hi2⟩:=minfo_int
 obtain ⟨ig,hig,hg0,hg1,hg2⟩:=minfo_going
 have P0:=BoxOf.alloc (BoxOf.new w #[.slice A ys.length c,.slice B gs.length d] 28) (.cells #[.slice none 0 0,.slice none 0 0] 28)
 have Z0:=BoxOf.new' (w.alloc (.cells #[.slice A ys.length c,.slice B gs.length d] 28)) (w.heap.size + 1) #[.slice none 0 0,.slice none 0 0] 28 (by simp)
 have t0:=Ext.alloc (Ext.alloc (Below.refl w.heap.size w) (.cells #[.slice A ys.length c,.slice B gs.length d] 28)) (.cells #[.slice none 0 0,.slice none 0 0] 28)
 have HY:=Lib.hid hy
 have HG:=Lib.hid hg
 have HYM:=Lib.hid (may_max hy)
 have HGM:=Lib.hid (go_max hg)
 have hyz : Hid (ys.length * 24 ≤ 140737488355328):=by
  obtain ⟨_,_,_,_,h1,_⟩:=view3 hy
  exact h1
 have hgz : Hid (gs.length * 80 ≤ 140737488355328):=by
  obtain ⟨_,_,_,_,h1,_⟩:=viewG hg
  exact h1
 clear hy hg
 go_enter Try.func33,Try.ntmps33
 go_upto_region 1 with fail
 generalize (w.alloc (.cells #[.slice A ys.length c,.slice B gs.length d] 28)).alloc (.cells #[.slice none 0 0,.slice none 0 0] 28) = W at *
 have x0:=P0.cell
 obtain ⟨base,hbase⟩ : ∃ z : Nat,z = w.heap.size + 2:=⟨_,rfl⟩
 have hb2' : base ≤ W.heap.size:=by have:=Z0.lt;omega
 have HBS:=Lib.hid (And.intro hbase hb2')
 clear hbase hb2'
 go_wp2
 clear x0
 go_loopw [13] (fun i wr=>∃ (k : Nat) (v : Value),k ≤ ys.length ∧ i = .int .i64 k ∧ Below w.heap.size w wr ∧ BoxOf wr w.heap.size #[.slice A ys.length c,.slice B gs.length d] 28 ∧ BoxOf wr (w.heap.size + 1) #[v,.slice none 0 0] 28 ∧ OwnE (listE 29) wr (Iv base wr.heap.size) base 30 v (ys.take k) ∧ Hid (base ≤ wr.heap.size)) (fun i _=>ys.length - (intOf i).toNat)
 case atStart=>exact ⟨0,.slice none 0 0,by omega,rfl,t0,P0,Z0,OwnE.nil _ _ _ _ _,HBS.out.2⟩
 case round=>
  obtain ⟨k,v,hk,rfl,t1,P1,Z1,O1,HB1⟩:=hrel
  clear t0 P0 Z0
  by_cases hlt : k < ys.length
  · obtain ⟨b,off,A2,c2,rfl,q2,r2⟩:=may_at (HY.out.below t1) hlt
    have hstep : ys.take (k + 1) = ys.take k ++ [ys[k]]:=List.take_succ_eq_append_getElem hlt
    have HSTK:=Lib.hid hstep
    generalize ys[k] = zs at *
    have HWK:=next_wrap HYM.out hlt
    have HLK:=Lib.hid hlt
    have HZM:=Lib.hid (val_max r2)
    have hzz : Hid (zs.length * 24 ≤ 140737488355328):=by
     obtain ⟨_,_,_,_,h1,_⟩:=view2 r2
     exact h1
    have HR:=Lib.hid r2
    clear r2 hstep
    obtain ⟨w0,hw0⟩ : ∃ z : World,z = wr:=⟨_,rfl⟩
    rw [← hw0] at t1 P1 Z1 O1 HB1 HR
    have bw0 : Below w0.heap.size w0 wr:=by rw [hw0];exact Below.refl _ _
    go_wp2
    clear hw0
    go_loopw [5,19] (fun u i wq=>∃ (j : Nat),j ≤ zs.length ∧ i = .int .i64 j ∧ Below w0.heap.size w0 wq ∧ OwnE bytesE wq (Iv w0.heap.size wq.heap.size) w0.heap.size 29 u (zs.take j)) (fun _ i _=>zs.length - (intOf i).toNat)
    case atStart=>exact ⟨0,by omega,rfl,bw0,OwnE.nil _ _ _ _ _⟩
    case round=>
     obtain ⟨j,hj,rfl,b2,O2⟩:=hrel
     clear bw0 q2
     by_cases hltj : j < zs.length
     · obtain ⟨b5,off5,A5,c5,rfl,q5,r5⟩:=val_at (HR.out.below b2) hltj
       have hstepj : zs.take (j + 1) = zs.take j ++ [zs[j]]:=List.take_succ_eq_append_getElem hltj
       have HSTJ:=Lib.hid hstepj
       generalize zs[j] = bs at *
       have HWJ:=next_wrap HZM.out hltj
       have HLJ:=Lib.hid hltj
       have hjl : (zs.take j).length = j:=by rw [List.length_take];omega
       have HBY : Hid ((zs.take j).length + 1 ≤ maxLen ∧ ((zs.take j).length + 1) * 24 ≤ 140737488355328):=by
        have h1:=HZM.out
        have h2:=hzz.out
        show _ ∧ _
        rw [hjl]
        omega
       have HCL:=Lib.hid (clone_any S bs A5 c5 wr r5)
       clear hstepj hjl r5 hj
       go_wp2_with fail
       refine HCL.out.mono ?_
       rintro e w3 ⟨⟨vb,rfl,r6⟩,b3⟩
       obtain ⟨A6,c6,rfl⟩:=bytesV r6
       have bb:=Ext.alloc (Below.refl w3.heap.size w3) (.cells #[.slice A6 bs.length c6] 29)
       have E6:=bytesE_new r6 bb
       have b4:=Ext.trans (Ext.trans b2 b3) bb
       have O3:=O2.next (fun b hb=>hb.2) (Ext.trans b3 bb)
       have rd6:=rd_row w3 #[.slice A6 bs.length c6] 29
       have hlo : wr.heap.size ≤ (w3.alloc (.cells #[.slice A6 bs.length c6] 29)).heap.size:=Nat.le_trans b3.size bb.size
       have hlo2:=b2.size
       clear r6 HCL q5 O2 b3 bb
       go_wp2_with (at_builtin;refine wpList_pushI rfl (.tmp 23) (.tmp 26) 30 rfl w0.heap.size wr.heap.size 29 ib _ 24 Try.underlying30 hib hb0 hb1 hb2 rfl (by decide) _ (zs.take j) rfl O3 hlo hlo2 (some ⟨w3.heap.size,0,none⟩) 1 _ rfl rd6 bs E6 HBY.out.1 HBY.out.2 ?_;intro v7 w7 O7 g7 k7;have b7:=Below.grown b4 g7 b4.size k7;have O8:=OwnE.cast HSTJ.out.symm O7;clear O3 E6 rd6 O7 g7 k7 b4)
       go_roundw
       case rel=>exact ⟨j + 1,HLJ.out,by first | exact round_same HWJ | go_num,b7,O8⟩
       case measure=>first | exact round_less HWJ HLJ.out | (have h:=HLJ.out;simp [intOf];omega)
     · have hje : zs.take j = zs:=List.take_of_length_le (by omega)
       rw [hje] at O2
       obtain ⟨Au,cu,rfl⟩:=O2.slice
       have P2:=P1.next b2
       have Z2:=Z1.next b2
       have t2:=Ext.trans t1 b2
       have bb:=Ext.alloc (Below.refl wr.heap.size wr) (.cells #[.slice Au zs.length cu] 30)
       have P3:=P2.alloc (.cells #[.slice Au zs.length cu] 30)
       have Z3:=Z2.alloc (.cells #[.slice Au zs.length cu] 30)
       have t3:=Ext.trans t2 bb
       have O3:=O1.next (fun b hb=>hb.2) (Ext.trans b2 bb)
       have E3 : (listE 29).E (wr.alloc (.cells #[.slice Au zs.length cu] 30)) (Iv w0.heap.size (wr.alloc (.cells #[.slice Au zs.length cu] 30)).heap.size) zs [.slice Au zs.length cu]:=⟨_,w0.heap.size,rfl,O2.step bb,hzz.out⟩
       have rd3:=rd_row wr #[.slice Au zs.length cu] 30
       have hlo : w0.heap.size ≤ (wr.alloc (.cells #[.slice Au zs.length cu] 30)).heap.size:=Nat.le_trans b2.size bb.size
       have hlo2:=HB1.out
       have hkl : (ys.take k).length = k:=by rw [List.length_take];have:=HLK.out;omega
       have HBY : Hid ((ys.take k).length + 1 ≤ maxLen ∧ ((ys.take k).length + 1) * 24 ≤ 140737488355328):=by
        have h1:=HYM.out
        have h2:=hyz.out
        have h3:=HLK.out
        show _ ∧ _
        rw [hkl]
        omega
       have HTL : Hid (∀ (A : Option Addr) (c : Nat),Value.slice A ((ys.take k) ++ [zs]).length c = Value.slice A (k + 1) c):=fun A c=>by
        rw [List.length_append,hkl]
        rfl
       have z3:=Z3.cell
       have z2:=Z2.cell
       have f3:=Z3.free
       clear hkl hje b2 bb P2 Z2 O1 P1 Z1 t1 t2 O2
       go_wp2_with (at_builtin;refine wpList_pushI rfl (.tmp 30) (.tmp 32) 25 rfl base w0.heap.size 30 il _ 24 Try.underlying25 hil hl0 hl1 hl2 rfl (by decide) v (ys.take k) rfl O3 hlo hlo2 (some ⟨wr.heap.size,0,none⟩) 1 _ rfl rd3 zs E3 HBY.out.1 HBY.out.2 ?_;intro v7 w7 O7 g7 k7;obtain ⟨A10,c10,e10⟩:=O7.slice;have e11:=e10.trans (HTL.out A10 c10);subst e11;have hb3:=HBS.out.1;have P7:=P3.grown g7 (fun e=>by have:=k7 _ e;omega);have Z7:=Z3.grown g7 (fun e=>by have:=k7 _ e;omega);have t7:=Below.grown t3 g7 t3.size (fun r e=>by have:=k7 r e;omega);have O8:=OwnE.cast HSTK.out.symm O7;have HN7:=Lib.hid (Nat.le_trans hlo2 (Nat.le_trans hlo g7.size));have y7:=Z7.cell;have f7:=Z7.free;clear z3 z2 f3 P3 Z3 t3 O3 E3 rd3 g7 k7 O7 e10)
       have Z8 : BoxOf _ (w.heap.size + 1) #[.slice A10 (k + 1) c10,.slice none 0 0] 28:=mbox_self Z7 0 (.slice A10 (k + 1) c10)
       have P8:=mbox_else P7 (show w.heap.size ≠ w.heap.size + 1 by omega) 0 (.slice A10 (k + 1) c10)
       have O9:=OwnE.setElse (k:=w.heap.size + 1) O8 (fun h=>by have:=h.1;omega) 0 (.slice A10 (k + 1) c10)
       have t8:=Below.setCell (p:=⟨w.heap.size + 1,0,none⟩) t7 (show w.heap.size ≤ w.heap.size + 1 by omega) (.slice A10 (k + 1) c10)
       go_roundw
       case rel=>exact ⟨k + 1,_,HLK.out,by first | exact round_same HWK | go_num,t8,P8,Z8,(by rw [msize];exact O9),(show Hid (base ≤ _) from by show base ≤ _;rw [msize];exact HN7.out)⟩
       case measure=>first | exact round_less HWK HLK.out | (have h:=HLK.out;simp [intOf];omega)
  · have hke : ys.take k = ys:=List.take_of_length_le (by omega)
    rw [hke] at O1
    obtain ⟨Ay,cy,rfl⟩:=O1.slice
    obtain ⟨m,hm⟩ : ∃ z : Nat,z = wr.heap.size:=⟨_,rfl⟩
    have O2 : OwnE (listE 29) wr (Iv base m) base 30 (.slice Ay ys.length cy) ys:=by rw [hm];exact O1
    have hm1 : m ≤ wr.heap.size:=by omega
    have hbm : base ≤ m:=by have:=HB1.out;omega
    have HM:=Lib.hid (And.intro hm1 hbm)
    clear hke O1 hm hm1 hbm HB1
    have x1:=P1.cell
    have wr0:=HM.out.1
    go_wp2
    clear x1 hk hlt
    go_loopw [39] (fun i wr=>∃ (j : Nat) (u : Value),j ≤ gs.length ∧ i = .int .i64 j ∧ Below w.heap.size w wr ∧ BoxOf wr w.heap.size #[.slice A ys.length c,.slice B gs.length d] 28 ∧ BoxOf wr (w.heap.size + 1) #[.slice Ay ys.length cy,u] 28 ∧ OwnE (listE 29) wr (Iv base m) base 30 (.slice Ay ys.length cy) ys ∧ OwnE (goE 3) wr (Iv m wr.heap.size) m 64 u (gs.take j) ∧ Hid (m ≤ wr.heap.size)) (fun i _=>gs.length - (intOf i).toNat)
    case atStart=>exact ⟨0,.slice none 0 0,by omega,rfl,t1,P1,Z1,O2,OwnE.nil _ _ _ _ _,wr0⟩
    case round=>
     clear t1 P1 Z1 O2 wr0
     obtain ⟨j,u,hj,rfl,t1,P1,Z1,O1,G1,HN1⟩:=hrel
     have hm9:=HM.out.2
     have hb9:=HBS.out.1
     by_cases hlt : j < gs.length
     · obtain ⟨b,off,Ab,cg,Am,cm,rfl,q0,q1,q2,q3,q4,q5,i0,i1,i2,rb,rm⟩:=go_at (HG.out.below t1) hlt
       have hgm : gs[j] = (nuOf gs[j],(kiOf gs[j],atOf gs[j],manyOf gs[j],datOf gs[j],()),mksOf gs[j],()):=rfl
       have HGE:=Lib.hid hgm
       have HST:=Lib.hid (show gs.take (j + 1) = gs.take j ++ [gs[j]] from List.take_succ_eq_append_getElem hlt)
       generalize gs[j] = g at *
       have HWJ:=next_wrap HGM.out hlt
       have HLJ:=Lib.hid hlt
       have HI:=Lib.hid (And.intro i0 (And.intro i1 i2))
       have HMA:=Lib.hid (ints_all rm)
       have bA:=Ext.alloc (Below.refl wr.heap.size wr) (.cells #[.int .i64 (nuOf g),.int .u8 ((kiOf g).toNat : Int),.int .i64 (atOf g),.int .i64 (manyOf g),.slice Ab (datOf g).length cg,.slice Am (mksOf g).length cm] 64)
       have hrb:=rb.below bA
       have hrm:=rm.below bA
       have P2:=P1.alloc (.cells #[.int .i64 (nuOf g),.int .u8 ((kiOf g).toNat : Int),.int .i64 (atOf g),.int .i64 (manyOf g),.slice Ab (datOf g).length cg,.slice Am (mksOf g).length cm] 64)
       have Z2:=Z1.alloc (.cells #[.int .i64 (nuOf g),.int .u8 ((kiOf g).toNat : Int),.int .i64 (atOf g),.int .i64 (manyOf g),.slice Ab (datOf g).length cg,.slice Am (mksOf g).length cm] 64)
       have N2:=BoxOf.new wr #[.int .i64 (nuOf g),.int .u8 ((kiOf g).toNat : Int),.int .i64 (atOf g),.int .i64 (manyOf g),.slice Ab (datOf g).length cg,.slice Am (mksOf g).length cm] 64
       have t2:=Ext.trans t1 bA
       have O2:=O1.next (fun b hb=>Nat.lt_of_lt_of_le hb.2 HN1.out) bA
       have G2:=G1.next (fun b hb=>hb.2) bA
       obtain ⟨lo,hlo⟩ : ∃ z : Nat,z = wr.heap.size:=⟨_,rfl⟩
       have hlo2:=bA.size
       have hlo3:=HN1.out
       clear hgm i0 i1 i2 rb rm bA P1 Z1 t1 O1 G1 hj
       go_upto_region 15 with fail
       rw [← hlo] at N2 G2 hlo2 hlo3 ⊢
       have HLO:=Lib.hid (And.intro hlo2 hlo3)
       clear hlo hlo2 hlo3 q0 q1 q2 q3 q4 q5 HN1 hlt
       generalize wr.alloc (.cells #[.int .i64 (nuOf g),.int .u8 ((kiOf g).toNat : Int),.int .i64 (atOf g),.int .i64 (manyOf g),.slice Ab (datOf g).length cg,.slice Am (mksOf g).length cm] 64) = we at *
       have P5:=P2.drew
       have Z5:=Z2.drew
       have N5:=N2.drew
       have O5:=O2.next (fun b hb=>by have:=hb.2;have:=HLO.out;omega) (Ext.drew (Below.refl we.heap.size we))
       have G5:=G2.next (fun b hb=>by have:=hb.2;have:=HLO.out;omega) (Ext.drew (Below.refl we.heap.size we))
       have t5:=Ext.drew t2
       have n5 : lo < we.drew.heap.size:=N2.lt
       have RB5:=hrb.below (Ext.drew (Below.refl we.heap.size we))
       have RM5:=hrm.below (Ext.drew (Below.refl we.heap.size we))
       have hwl : w.heap.size + 1 < lo:=by have:=HLO.out;omega
       have hml:=HLO.out.2
       refine wp_region_held_drew (S:=fun w'=>BoxOf w' w.heap.size #[.slice A ys.length c,.slice (some ⟨b,off,none⟩) gs.length d] 28) (by kernel_rfl) P5 (fun hS=>?_)
       clear P2 Z2 N2 O2 G2 t2 hrb hrm
       generalize we.drew = wd at *
       refine wpAnyH_take (i:=0) (v:=?_) rfl (by kernel_rfl) (by kernel_rfl) (by kernel_rfl) (fun _ _ _ h=>h) (Or.inl ⟨by rfl,?_⟩) hS ?_
       rotate_left
       · (intro w hSw;(try dsimp only at hSw);go_simp;(try with_reducible rfl))
       rotate_left
       simp only [Act.put,zq0,zq1,zq2,zq3,zq4,zq5]
       refine wpAnyH_take (i:=1) (v:=?_) rfl (by kernel_rfl) (by kernel_rfl) (by kernel_rfl) (fun _ _ _ h=>h) (Or.inl ⟨by rfl,?_⟩) hS ?_
       rotate_left
       · (intro w hSw;(try dsimp only at hSw);go_simp;(try with_reducible rfl))
       rotate_left
       simp only [Act.put,zq0,zq1,zq2,zq3,zq4,zq5]
       refine wpAnyH_take (i:=4) (v:=?_) rfl (by kernel_rfl) (by kernel_rfl) (by kernel_rfl) (fun _ _ _ h=>h) (Or.inl ⟨by rfl,?_⟩) hS ?_
       rotate_left
       · (intro w hSw;(try dsimp only at hSw);go_simp;(try with_reducible rfl))
       rotate_left
       simp only [Act.put,zq0,zq1,zq2,zq3,zq4,zq5]
       refine wpAnyH_ready (rs:=[2,5]) (by kernel_rfl) (by simp) ?_
       refine AllReadyH.cons rfl (fun K hK=>?_) (AllReadyH.cons rfl (fun K hK=>?_) AllReadyH.nil)
       · rw [if_pos (by rfl)]
         have yQ:=N5.cell
         go_simp
         refine hK.out _ _ P5 (fun hS'=>?_)
         clear yQ
         clear hK K hS
         have hS:=hS'
         clear hS'
         try simp only [Act.put,zq0,zq1,zq2,zq3,zq4,zq5]
         refine wpAnyH_ready (rs:=[3,5]) (by kernel_rfl) (by simp) ?_
         refine AllReadyH.cons rfl (fun K hK=>?_) (AllReadyH.cons rfl (fun K hK=>?_) AllReadyH.nil)
         · rw [if_pos (by rfl)]
           go_simp
           refine (clone_any S (datOf g) Ab cg _ RB5).mono ?_
           rintro e v5 ⟨⟨vd,rfl,r6⟩,bb⟩
           obtain ⟨A6,c6,rfl⟩:=bytesV r6
           have D5 : RdIn v5 (fun b=>Iv (lo + 1) v5.heap.size b ∧ Live v5 b) (.sl .byte) (datOf g) [.slice A6 (datOf g).length c6]:=r6.mono fun b hb=>⟨⟨by have:=hb.1;have:=n5;omega,hb.2.1⟩,hb.2.2⟩
           have R9:=RM5.below bb
           clear RM5 RB5 r6
           have RM5:=R9
           clear R9
           have P9:=P5.next bb
           have Z9:=Z5.next bb
           have N9:=N5.next bb
           have O9:=O5.next (fun b hb=>by have:=hb.2;have:=n5;omega) bb
           have G9:=G5.next (fun b hb=>by have:=hb.2;have:=n5;omega) bb
           have t9:=Ext.trans t5 bb
           have n9:=Nat.lt_of_lt_of_le n5 bb.size
           refine hK.out _ _ P9 (fun hS'=>?_)
           clear P5 Z5 N5 O5 G5 t5 n5
           have P5:=P9
           have Z5:=Z9
           have N5:=N9
           have O5:=O9
           have G5:=G9
           have t5:=t9
           have n5:=n9
           clear P9 Z9 N9 O9 G9 t9 n9
           clear hK K hS
           have hS:=hS'
           clear hS'
           try simp only [Act.put,zq0,zq1,zq2,zq3,zq4,zq5]
           clear bb
           refine wpAnyH_ready (rs:=[5]) (by kernel_rfl) (by simp) ?_
           refine AllReadyH.cons rfl (fun K hK=>?_) AllReadyH.nil
           rw [if_pos (by rfl)]
           have yQ:=N5.cell
           go_simp
           refine hK.out _ _ P5 (fun hS'=>?_)
           clear yQ
           clear hK K hS
           have hS:=hS'
           clear hS'
           try simp only [Act.put,zq0,zq1,zq2,zq3,zq4,zq5]
           refine wpAnyH_take (i:=7) (v:=?_) rfl (by kernel_rfl) (by kernel_rfl) (by kernel_rfl) (fun _ _ _ h=>h) (Or.inl ⟨by rfl,?_⟩) hS ?_
           rotate_left
           · (intro w hSw;(try dsimp only at hSw);go_simp;(try with_reducible rfl))
           rotate_left
           simp only [Act.put,zq0,zq1,zq2,zq3,zq4,zq5]
           refine wpAnyH_take (i:=8) (v:=?_) rfl (by kernel_rfl) (by kernel_rfl) (by kernel_rfl) (fun _ _ _ h=>h) (Or.inl ⟨by rfl,?_⟩) hS ?_
           rotate_left
           · (intro w hSw;(try dsimp only at hSw);go_simp;(try with_reducible rfl))
           rotate_left
           simp only [Act.put,zq0,zq1,zq2,zq3,zq4,zq5]
           refine wpAnyH_ready (rs:=[6]) (by kernel_rfl) (by simp) ?_
           refine AllReadyH.cons rfl (fun K hK=>?_) AllReadyH.nil
           rw [if_pos (by rfl)]
           go_simp
           refine (clonei_any S (mksOf g) Am cm _ RM5).mono ?_
           rintro e v6 ⟨⟨vm,rfl,m6⟩,bb⟩
           obtain ⟨A7,c7,rfl⟩:=m6.slice
           have D6:=(D5.below bb).mono (S':=fun b=>(Iv (lo + 1) v6.heap.size b ∧ Live v6 b) ∧ (mksOf g = [] ∨ (Value.slice A7 (mksOf g).length c7).ownBlock ≠ some b)) (fun b hb=>⟨⟨⟨hb.1.1,Nat.lt_of_lt_of_le hb.1.2 bb.size⟩,hb.2.below bb⟩,m6.ne (by have:=hb.1.2;exact this)⟩)
           have M6 : MarksO v6 (Iv (lo + 1) v6.heap.size) 3 (.slice A7 (mksOf g).length c7) (mksOf g):=m6.mono fun b hb=>⟨by have:=hb.1;have:=n5;omega,hb.2⟩
           clear RM5 D5 m6
           have P9:=P5.next bb
           have Z9:=Z5.next bb
           have N9:=N5.next bb
           have O9:=O5.next (fun b hb=>by have:=hb.2;have:=n5;omega) bb
           have G9:=G5.next (fun b hb=>by have:=hb.2;have:=n5;omega) bb
           have t9:=Ext.trans t5 bb
           have n9:=Nat.lt_of_lt_of_le n5 bb.size
           refine hK.out _ _ P9 (fun hS'=>?_)
           clear P5 Z5 N5 O5 G5 t5 n5
           have P5:=P9
           have Z5:=Z9
           have N5:=N9
           have O5:=O9
           have G5:=G9
           have t5:=t9
           have n5:=n9
           clear P9 Z9 N9 O9 G9 t9 n9
           clear hK K hS
           have hS:=hS'
           clear hS'
           try simp only [Act.put,zq0,zq1,zq2,zq3,zq4,zq5]
           clear bb
           refine wpAnyH_ready (rs:=[9]) (by kernel_rfl) (by simp) ?_
           refine AllReadyH.cons rfl (fun K hK=>?_) AllReadyH.nil
           rw [if_pos (by rfl)]
           have fQ:=N5.free
           have yQ:=N5.cell
           go_simp
           clear fQ yQ
           have N9 : BoxOf _ lo #[.int .i64 (nuOf g),.int .u8 ((kiOf g).toNat : Int),.int .i64 (atOf g),.int .i64 (manyOf g),.slice A6 (datOf g).length c6,.slice Am (mksOf g).length cm] 64:=mbox_self N5 4 (.slice A6 (datOf g).length c6)
           have P9:=mbox_else P5 (show w.heap.size ≠ lo by omega) 4 (.slice A6 (datOf g).length c6)
           have Z9:=mbox_else Z5 (show w.heap.size + 1 ≠ lo by omega) 4 (.slice A6 (datOf g).length c6)
           have O9:=OwnE.setElse (k:=lo) O5 (fun h=>by have:=h.2;omega) 4 (.slice A6 (datOf g).length c6)
           have G9:=OwnE.setElse (k:=lo) G5 (fun h=>by have:=h.2;omega) 4 (.slice A6 (datOf g).length c6)
           have t9:=Below.setCell (p:=⟨lo,4,none⟩) t5 (show w.heap.size ≤ lo by omega) (.slice A6 (datOf g).length c6)
           have D9:=D6.setLo 4 (.slice A6 (datOf g).length c6)
           have M9:=M6.setLo 4 (.slice A6 (datOf g).length c6)
           refine hK.out _ _ P9 (fun hS'=>?_)
           clear P5 Z5 N5 O5 G5 t5 n5 D6 M6
           clear hK K hS
           have hS:=hS'
           clear hS'
           try simp only [Act.put,zq0,zq1,zq2,zq3,zq4,zq5]
           refine wpAnyH_take (i:=10) (v:=?_) rfl (by kernel_rfl) (by kernel_rfl) (by kernel_rfl) (fun _ _ _ h=>h) (Or.inl ⟨by rfl,?_⟩) hS ?_
           rotate_left
           · (intro w hSw;(try dsimp only at hSw);go_simp;(try with_reducible rfl))
           rotate_left
           simp only [Act.put,zq0,zq1,zq2,zq3,zq4,zq5]
           refine wpAnyH_ready (rs:=[11]) (by kernel_rfl) (by simp) ?_
           refine AllReadyH.cons rfl (fun K hK=>?_) AllReadyH.nil
           rw [if_pos (by rfl)]
           have fQ:=N9.free
           have yQ:=N9.cell
           go_simp
           clear fQ yQ
           have N8 : BoxOf _ lo #[.int .i64 (nuOf g),.int .u8 ((kiOf g).toNat : Int),.int .i64 (atOf g),.int .i64 (manyOf g),.slice A6 (datOf g).length c6,.slice A7 (mksOf g).length c7] 64:=mbox_self N9 5 (.slice A7 (mksOf g).length c7)
           have P8:=mbox_else P9 (show w.heap.size ≠ lo by omega) 5 (.slice A7 (mksOf g).length c7)
           have Z8:=mbox_else Z9 (show w.heap.size + 1 ≠ lo by omega) 5 (.slice A7 (mksOf g).length c7)
           have O8:=OwnE.setElse (k:=lo) O9 (fun h=>by have:=h.2;omega) 5 (.slice A7 (mksOf g).length c7)
           have G8:=OwnE.setElse (k:=lo) G9 (fun h=>by have:=h.2;omega) 5 (.slice A7 (mksOf g).length c7)
           have t8:=Below.setCell (p:=⟨lo,5,none⟩) t9 (show w.heap.size ≤ lo by omega) (.slice A7 (mksOf g).length c7)
           have D8:=D9.setLo 5 (.slice A7 (mksOf g).length c7)
           have M8:=M9.setLo 5 (.slice A7 (mksOf g).length c7)
           refine hK.out _ _ P8 (fun hS'=>?_)
           clear hK K hS hS' P9 Z9 N9 O9 G9 t9 D9 M9
           try simp only [Act.put,zq0,zq1,zq2,zq3,zq4,zq5]
           generalize (v6.setCell ⟨lo,4,none⟩ (.slice A6 (datOf g).length c6)).setCell ⟨lo,5,none⟩ (.slice A7 (mksOf g).length c7) = v8 at *
           refine wpAnyH_done (by kernel_rfl) ?_ _
           have bb:=Ext.alloc (Below.refl v8.heap.size v8) (.cells #[.int .i64 (nuOf g),.int .u8 ((kiOf g).toNat : Int),.int .i64 (atOf g),.int .i64 (manyOf g),.slice A6 (datOf g).length c6,.slice A7 (mksOf g).length c7] 64)
           have l8:=N8.lt
           have P10:=P8.next bb
           have Z10:=Z8.next bb
           have t10:=Ext.trans t8 bb
           have O10:=O8.next (fun b hb=>by have:=hb.2;omega) bb
           have G10:=G8.next (fun b hb=>by have:=hb.2;omega) bb
           have rd10:=rd_row v8 #[.int .i64 (nuOf g),.int .u8 ((kiOf g).toNat : Int),.int .i64 (atOf g),.int .i64 (manyOf g),.slice A6 (datOf g).length c6,.slice A7 (mksOf g).length c7] 64
           have E10 : (goE 3).E (v8.alloc (.cells #[.int .i64 (nuOf g),.int .u8 ((kiOf g).toNat : Int),.int .i64 (atOf g),.int .i64 (manyOf g),.slice A6 (datOf g).length c6,.slice A7 (mksOf g).length c7] 64)) (Iv lo (v8.alloc (.cells #[.int .i64 (nuOf g),.int .u8 ((kiOf g).toNat : Int),.int .i64 (atOf g),.int .i64 (manyOf g),.slice A6 (datOf g).length c6,.slice A7 (mksOf g).length c7] 64)).heap.size) g [.int .i64 (nuOf g),.int .u8 ((kiOf g).toNat : Int),.int .i64 (atOf g),.int .i64 (manyOf g),.slice A6 (datOf g).length c6,.slice A7 (mksOf g).length c7]:=
            ⟨nuOf g,kiOf g,atOf g,manyOf g,datOf g,mksOf g,_,_,HGE.out,rfl,HI.out,HMA.out.1,HMA.out.2,
               (D8.below bb).mono (fun b hb=>⟨⟨⟨by have:=hb.1.1.1;omega,Nat.lt_of_lt_of_le hb.1.1.2 bb.size⟩,hb.1.2.below bb⟩,hb.2⟩),(M8.frame fun b hb=>bb.block b hb.2).mono fun b hb=>⟨by have:=hb.1;omega,Nat.lt_of_lt_of_le hb.2 bb.size⟩⟩
           have hlo : lo ≤ (v8.alloc (.cells #[.int .i64 (nuOf g),.int .u8 ((kiOf g).toNat : Int),.int .i64 (atOf g),.int .i64 (manyOf g),.slice A6 (datOf g).length c6,.slice A7 (mksOf g).length c7] 64)).heap.size:=Nat.le_trans (Nat.le_of_lt l8) bb.size
           have hgl : (gs.take j).length = j:=by rw [List.length_take];have:=HLJ.out;omega
           have HBY : Hid ((gs.take j).length + 1 ≤ maxLen ∧ ((gs.take j).length + 1) * 80 ≤ 140737488355328):=by
            have h1:=HGM.out
            have h2:=hgz.out
            have h3:=HLJ.out
            show _ ∧ _
            rw [hgl]
            omega
           have HTL : Hid (∀ (A : Option Addr) (c : Nat),Value.slice A ((gs.take j) ++ [g]).length c = Value.slice A (j + 1) c):=fun A c=>by
            rw [List.length_append,hgl]
            rfl
           have z8:=Z8.cell
           have n8:=N8.cell
           have z10:=Z10.cell
           have f10:=Z10.free
           clear hgl P8 Z8 N8 O8 G8 t8 D8 M8 bb l8
           go_wp2_with (at_builtin;refine wpList_pushI rfl (.tmp 54) (.tmp 56) 26 rfl m lo 64 ig _ 80 Try.underlying26 hig hg0 hg1 hg2 rfl (by decide) u (gs.take j) rfl G10 hlo hml (some ⟨v8.heap.size,0,none⟩) 1 _ rfl rd10 g E10 HBY.out.1 HBY.out.2 ?_;intro vz wz Oz gz kz;obtain ⟨A10,c10,e10⟩:=Oz.slice;have e11:=e10.trans (HTL.out A10 c10);subst e11;have Pz:=P10.grown gz (fun e=>by have:=kz _ e;omega);have Zz:=Z10.grown gz (fun e=>by have:=kz _ e;omega);have tz:=Below.grown t10 gz t10.size (fun r e=>by have:=kz r e;omega);have Oy:=O10.frame (fun b hb=>gz.block b (by have:=hb.2;omega) (fun e=>by have:=kz _ e.symm;have:=hb.2;omega));have Oz2:=OwnE.cast HST.out.symm Oz;have HNz:=Lib.hid (Nat.le_trans hml (Nat.le_trans hlo gz.size));have yz:=Zz.cell;have fz:=Zz.free;clear z8 n8 z10 f10 P10 Z10 t10 O10 G10 E10 rd10 gz kz Oz e10)
           have Z12 : BoxOf _ (w.heap.size + 1) #[.slice Ay ys.length cy,.slice A10 (j + 1) c10] 28:=mbox_self Zz 1 (.slice A10 (j + 1) c10)
           have P12:=mbox_else Pz (show w.heap.size ≠ w.heap.size + 1 by omega) 1 (.slice A10 (j + 1) c10)
           have O12:=OwnE.setElse (k:=w.heap.size + 1) Oy (fun h=>by have:=h.1;omega) 1 (.slice A10 (j + 1) c10)
           have G12:=OwnE.setElse (k:=w.heap.size + 1) Oz2 (fun h=>by have:=h.1;omega) 1 (.slice A10 (j + 1) c10)
           have t12:=Below.setCell (p:=⟨w.heap.size + 1,1,none⟩) tz (show w.heap.size ≤ w.heap.size + 1 by omega) (.slice A10 (j + 1) c10)
           go_roundw
           case rel=>exact ⟨j + 1,_,HLJ.out,by first | exact round_same HWJ | go_num,t12,P12,Z12,O12,(by rw [msize];exact G12),(show Hid (m ≤ _) from by show m ≤ _;rw [msize];exact HNz.out)⟩
           case measure=>first | exact round_less HWJ HLJ.out | (have h:=HLJ.out;simp [intOf];omega)
         · rw [if_pos (by rfl)]
           have yQ:=N5.cell
           go_simp
           refine hK.out _ _ P5 (fun hS'=>?_)
           clear yQ
           clear hK K hS
           have hS:=hS'
           clear hS'
           try simp only [Act.put,zq0,zq1,zq2,zq3,zq4,zq5]
           refine wpAnyH_ready (rs:=[3]) (by kernel_rfl) (by simp) ?_
           refine AllReadyH.cons rfl (fun K hK=>?_) AllReadyH.nil
           rw [if_pos (by rfl)]
           go_simp
           refine (clone_any S (datOf g) Ab cg _ RB5).mono ?_
           rintro e v5 ⟨⟨vd,rfl,r6⟩,bb⟩
           obtain ⟨A6,c6,rfl⟩:=bytesV r6
           have D5 : RdIn v5 (fun b=>Iv (lo + 1) v5.heap.size b ∧ Live v5 b) (.sl .byte) (datOf g) [.slice A6 (datOf g).length c6]:=r6.mono fun b hb=>⟨⟨by have:=hb.1;have:=n5;omega,hb.2.1⟩,hb.2.2⟩
           have R9:=RM5.below bb
           clear RM5 RB5 r6
           have RM5:=R9
           clear R9
           have P9:=P5.next bb
           have Z9:=Z5.next bb
           have N9:=N5.next bb
           have O9:=O5.next (fun b hb=>by have:=hb.2;have:=n5;omega) bb
           have G9:=G5.next (fun b hb=>by have:=hb.2;have:=n5;omega) bb
           have t9:=Ext.trans t5 bb
           have n9:=Nat.lt_of_lt_of_le n5 bb.size
           refine hK.out _ _ P9 (fun hS'=>?_)
           clear P5 Z5 N5 O5 G5 t5 n5
           have P5:=P9
           have Z5:=Z9
           have N5:=N9
           have O5:=O9
           have G5:=G9
           have t5:=t9
           have n5:=n9
           clear P9 Z9 N9 O9 G9 t9 n9
           clear hK K hS
           have hS:=hS'
           clear hS'
           try simp only [Act.put,zq0,zq1,zq2,zq3,zq4,zq5]
           clear bb
           refine wpAnyH_take (i:=7) (v:=?_) rfl (by kernel_rfl) (by kernel_rfl) (by kernel_rfl) (fun _ _ _ h=>h) (Or.inl ⟨by rfl,?_⟩) hS ?_
           rotate_left
           · (intro w hSw;(try dsimp only at hSw);go_simp;(try with_reducible rfl))
           rotate_left
           simp only [Act.put,zq0,zq1,zq2,zq3,zq4,zq5]
           refine wpAnyH_take (i:=8) (v:=?_) rfl (by kernel_rfl) (by kernel_rfl) (by kernel_rfl) (fun _ _ _ h=>h) (Or.inl ⟨by rfl,?_⟩) hS ?_
           rotate_left
           · (intro w hSw;(try dsimp only at hSw);go_simp;(try with_reducible rfl))
           rotate_left
           simp only [Act.put,zq0,zq1,zq2,zq3,zq4,zq5]
           refine wpAnyH_ready (rs:=[6]) (by kernel_rfl) (by simp) ?_
           refine AllReadyH.cons rfl (fun K hK=>?_) AllReadyH.nil
           rw [if_pos (by rfl)]
           go_simp
           refine (clonei_any S (mksOf g) Am cm _ RM5).mono ?_
           rintro e v6 ⟨⟨vm,rfl,m6⟩,bb⟩
           obtain ⟨A7,c7,rfl⟩:=m6.slice
           have D6:=(D5.below bb).mono (S':=fun b=>(Iv (lo + 1) v6.heap.size b ∧ Live v6 b) ∧ (mksOf g = [] ∨ (Value.slice A7 (mksOf g).length c7).ownBlock ≠ some b)) (fun b hb=>⟨⟨⟨hb.1.1,Nat.lt_of_lt_of_le hb.1.2 bb.size⟩,hb.2.below bb⟩,m6.ne (by have:=hb.1.2;exact this)⟩)
           have M6 : MarksO v6 (Iv (lo + 1) v6.heap.size) 3 (.slice A7 (mksOf g).length c7) (mksOf g):=m6.mono fun b hb=>⟨by have:=hb.1;have:=n5;omega,hb.2⟩
           clear RM5 D5 m6
           have P9:=P5.next bb
           have Z9:=Z5.next bb
           have N9:=N5.next bb
           have O9:=O5.next (fun b hb=>by have:=hb.2;have:=n5;omega) bb
           have G9:=G5.next (fun b hb=>by have:=hb.2;have:=n5;omega) bb
           have t9:=Ext.trans t5 bb
           have n9:=Nat.lt_of_lt_of_le n5 bb.size
           refine hK.out _ _ P9 (fun hS'=>?_)
           clear P5 Z5 N5 O5 G5 t5 n5
           have P5:=P9
           have Z5:=Z9
           have N5:=N9
           have O5:=O9
           have G5:=G9
           have t5:=t9
           have n5:=n9
           clear P9 Z9 N9 O9 G9 t9 n9
           clear hK K hS
           have hS:=hS'
           clear hS'
           try simp only [Act.put,zq0,zq1,zq2,zq3,zq4,zq5]
           clear bb
           refine wpAnyH_ready (rs:=[9]) (by kernel_rfl) (by simp) ?_
           refine AllReadyH.cons rfl (fun K hK=>?_) AllReadyH.nil
           rw [if_pos (by rfl)]
           have fQ:=N5.free
           have yQ:=N5.cell
           go_simp
           clear fQ yQ
           have N9 : BoxOf _ lo #[.int .i64 (nuOf g),.int .u8 ((kiOf g).toNat : Int),.int .i64 (atOf g),.int .i64 (manyOf g),.slice A6 (datOf g).length c6,.slice Am (mksOf g).length cm] 64:=mbox_self N5 4 (.slice A6 (datOf g).length c6)
           have P9:=mbox_else P5 (show w.heap.size ≠ lo by omega) 4 (.slice A6 (datOf g).length c6)
           have Z9:=mbox_else Z5 (show w.heap.size + 1 ≠ lo by omega) 4 (.slice A6 (datOf g).length c6)
           have O9:=OwnE.setElse (k:=lo) O5 (fun h=>by have:=h.2;omega) 4 (.slice A6 (datOf g).length c6)
           have G9:=OwnE.setElse (k:=lo) G5 (fun h=>by have:=h.2;omega) 4 (.slice A6 (datOf g).length c6)
           have t9:=Below.setCell (p:=⟨lo,4,none⟩) t5 (show w.heap.size ≤ lo by omega) (.slice A6 (datOf g).length c6)
           have D9:=D6.setLo 4 (.slice A6 (datOf g).length c6)
           have M9:=M6.setLo 4 (.slice A6 (datOf g).length c6)
           refine hK.out _ _ P9 (fun hS'=>?_)
           clear P5 Z5 N5 O5 G5 t5 n5 D6 M6
           clear hK K hS
           have hS:=hS'
           clear hS'
           try simp only [Act.put,zq0,zq1,zq2,zq3,zq4,zq5]
           refine wpAnyH_take (i:=10) (v:=?_) rfl (by kernel_rfl) (by kernel_rfl) (by kernel_rfl) (fun _ _ _ h=>h) (Or.inl ⟨by rfl,?_⟩) hS ?_
           rotate_left
           · (intro w hSw;(try dsimp only at hSw);go_simp;(try with_reducible rfl))
           rotate_left
           simp only [Act.put,zq0,zq1,zq2,zq3,zq4,zq5]
           refine wpAnyH_ready (rs:=[11]) (by kernel_rfl) (by simp) ?_
           refine AllReadyH.cons rfl (fun K hK=>?_) AllReadyH.nil
           rw [if_pos (by rfl)]
           have fQ:=N9.free
           have yQ:=N9.cell
           go_simp
           clear fQ yQ
           have N8 : BoxOf _ lo #[.int .i64 (nuOf g),.int .u8 ((kiOf g).toNat : Int),.int .i64 (atOf g),.int .i64 (manyOf g),.slice A6 (datOf g).length c6,.slice A7 (mksOf g).length c7] 64:=mbox_self N9 5 (.slice A7 (mksOf g).length c7)
           have P8:=mbox_else P9 (show w.heap.size ≠ lo by omega) 5 (.slice A7 (mksOf g).length c7)
           have Z8:=mbox_else Z9 (show w.heap.size + 1 ≠ lo by omega) 5 (.slice A7 (mksOf g).length c7)
           have O8:=OwnE.setElse (k:=lo) O9 (fun h=>by have:=h.2;omega) 5 (.slice A7 (mksOf g).length c7)
           have G8:=OwnE.setElse (k:=lo) G9 (fun h=>by have:=h.2;omega) 5 (.slice A7 (mksOf g).length c7)
           have t8:=Below.setCell (p:=⟨lo,5,none⟩) t9 (show w.heap.size ≤ lo by omega) (.slice A7 (mksOf g).length c7)
           have D8:=D9.setLo 5 (.slice A7 (mksOf g).length c7)
           have M8:=M9.setLo 5 (.slice A7 (mksOf g).length c7)
           refine hK.out _ _ P8 (fun hS'=>?_)
           clear hK K hS hS' P9 Z9 N9 O9 G9 t9 D9 M9
           try simp only [Act.put,zq0,zq1,zq2,zq3,zq4,zq5]
           generalize (v6.setCell ⟨lo,4,none⟩ (.slice A6 (datOf g).length c6)).setCell ⟨lo,5,none⟩ (.slice A7 (mksOf g).length c7) = v8 at *
           refine wpAnyH_done (by kernel_rfl) ?_ _
           have bb:=Ext.alloc (Below.refl v8.heap.size v8) (.cells #[.int .i64 (nuOf g),.int .u8 ((kiOf g).toNat : Int),.int .i64 (atOf g),.int .i64 (manyOf g),.slice A6 (datOf g).length c6,.slice A7 (mksOf g).length c7] 64)
           have l8:=N8.lt
           have P10:=P8.next bb
           have Z10:=Z8.next bb
           have t10:=Ext.trans t8 bb
           have O10:=O8.next (fun b hb=>by have:=hb.2;omega) bb
           have G10:=G8.next (fun b hb=>by have:=hb.2;omega) bb
           have rd10:=rd_row v8 #[.int .i64 (nuOf g),.int .u8 ((kiOf g).toNat : Int),.int .i64 (atOf g),.int .i64 (manyOf g),.slice A6 (datOf g).length c6,.slice A7 (mksOf g).length c7] 64
           have E10 : (goE 3).E (v8.alloc (.cells #[.int .i64 (nuOf g),.int .u8 ((kiOf g).toNat : Int),.int .i64 (atOf g),.int .i64 (manyOf g),.slice A6 (datOf g).length c6,.slice A7 (mksOf g).length c7] 64)) (Iv lo (v8.alloc (.cells #[.int .i64 (nuOf g),.int .u8 ((kiOf g).toNat : Int),.int .i64 (atOf g),.int .i64 (manyOf g),.slice A6 (datOf g).length c6,.slice A7 (mksOf g).length c7] 64)).heap.size) g [.int .i64 (nuOf g),.int .u8 ((kiOf g).toNat : Int),.int .i64 (atOf g),.int .i64 (manyOf g),.slice A6 (datOf g).length c6,.slice A7 (mksOf g).length c7]:=
            ⟨nuOf g,kiOf g,atOf g,manyOf g,datOf g,mksOf g,_,_,HGE.out,rfl,HI.out,HMA.out.1,HMA.out.2,
               (D8.below bb).mono (fun b hb=>⟨⟨⟨by have:=hb.1.1.1;omega,Nat.lt_of_lt_of_le hb.1.1.2 bb.size⟩,hb.1.2.below bb⟩,hb.2⟩),(M8.frame fun b hb=>bb.block b hb.2).mono fun b hb=>⟨by have:=hb.1;omega,Nat.lt_of_lt_of_le hb.2 bb.size⟩⟩
           have hlo : lo ≤ (v8.alloc (.cells #[.int .i64 (nuOf g),.int .u8 ((kiOf g).toNat : Int),.int .i64 (atOf g),.int .i64 (manyOf g),.slice A6 (datOf g).length c6,.slice A7 (mksOf g).length c7] 64)).heap.size:=Nat.le_trans (Nat.le_of_lt l8) bb.size
           have hgl : (gs.take j).length = j:=by rw [List.length_take];have:=HLJ.out;omega
           have HBY : Hid ((gs.take j).length + 1 ≤ maxLen ∧ ((gs.take j).length + 1) * 80 ≤ 140737488355328):=by
            have h1:=HGM.out
            have h2:=hgz.out
            have h3:=HLJ.out
            show _ ∧ _
            rw [hgl]
            omega
           have HTL : Hid (∀ (A : Option Addr) (c : Nat),Value.slice A ((gs.take j) ++ [g]).length c = Value.slice A (j + 1) c):=fun A c=>by
            rw [List.length_append,hgl]
            rfl
           have z8:=Z8.cell
           have n8:=N8.cell
           have z10:=Z10.cell
           have f10:=Z10.free
           clear hgl P8 Z8 N8 O8 G8 t8 D8 M8 bb l8
           go_wp2_with (at_builtin;refine wpList_pushI rfl (.tmp 54) (.tmp 56) 26 rfl m lo 64 ig _ 80 Try.underlying26 hig hg0 hg1 hg2 rfl (by decide) u (gs.take j) rfl G10 hlo hml (some ⟨v8.heap.size,0,none⟩) 1 _ rfl rd10 g E10 HBY.out.1 HBY.out.2 ?_;intro vz wz Oz gz kz;obtain ⟨A10,c10,e10⟩:=Oz.slice;have e11:=e10.trans (HTL.out A10 c10);subst e11;have Pz:=P10.grown gz (fun e=>by have:=kz _ e;omega);have Zz:=Z10.grown gz (fun e=>by have:=kz _ e;omega);have tz:=Below.grown t10 gz t10.size (fun r e=>by have:=kz r e;omega);have Oy:=O10.frame (fun b hb=>gz.block b (by have:=hb.2;omega) (fun e=>by have:=kz _ e.symm;have:=hb.2;omega));have Oz2:=OwnE.cast HST.out.symm Oz;have HNz:=Lib.hid (Nat.le_trans hml (Nat.le_trans hlo gz.size));have yz:=Zz.cell;have fz:=Zz.free;clear z8 n8 z10 f10 P10 Z10 t10 O10 G10 E10 rd10 gz kz Oz e10)
           have Z12 : BoxOf _ (w.heap.size + 1) #[.slice Ay ys.length cy,.slice A10 (j + 1) c10] 28:=mbox_self Zz 1 (.slice A10 (j + 1) c10)
           have P12:=mbox_else Pz (show w.heap.size ≠ w.heap.size + 1 by omega) 1 (.slice A10 (j + 1) c10)
           have O12:=OwnE.setElse (k:=w.heap.size + 1) Oy (fun h=>by have:=h.1;omega) 1 (.slice A10 (j + 1) c10)
           have G12:=OwnE.setElse (k:=w.heap.size + 1) Oz2 (fun h=>by have:=h.1;omega) 1 (.slice A10 (j + 1) c10)
           have t12:=Below.setCell (p:=⟨w.heap.size + 1,1,none⟩) tz (show w.heap.size ≤ w.heap.size + 1 by omega) (.slice A10 (j + 1) c10)
           go_roundw
           case rel=>exact ⟨j + 1,_,HLJ.out,by first | exact round_same HWJ | go_num,t12,P12,Z12,O12,(by rw [msize];exact G12),(show Hid (m ≤ _) from by show m ≤ _;rw [msize];exact HNz.out)⟩
           case measure=>first | exact round_less HWJ HLJ.out | (have h:=HLJ.out;simp [intOf];omega)
       · rw [if_pos (by rfl)]
         have yQ:=N5.cell
         go_simp
         refine hK.out _ _ P5 (fun hS'=>?_)
         clear yQ
         clear hK K hS
         have hS:=hS'
         clear hS'
         try simp only [Act.put,zq0,zq1,zq2,zq3,zq4,zq5]
         refine wpAnyH_ready (rs:=[2]) (by kernel_rfl) (by simp) ?_
         refine AllReadyH.cons rfl (fun K hK=>?_) AllReadyH.nil
         rw [if_pos (by rfl)]
         have yQ:=N5.cell
         go_simp
         refine hK.out _ _ P5 (fun hS'=>?_)
         clear yQ
         clear hK K hS
         have hS:=hS'
         clear hS'
         try simp only [Act.put,zq0,zq1,zq2,zq3,zq4,zq5]
         refine wpAnyH_ready (rs:=[3]) (by kernel_rfl) (by simp) ?_
         refine AllReadyH.cons rfl (fun K hK=>?_) AllReadyH.nil
         rw [if_pos (by rfl)]
         go_simp
         refine (clone_any S (datOf g) Ab cg _ RB5).mono ?_
         rintro e v5 ⟨⟨vd,rfl,r6⟩,bb⟩
         obtain ⟨A6,c6,rfl⟩:=bytesV r6
         have D5 : RdIn v5 (fun b=>Iv (lo + 1) v5.heap.size b ∧ Live v5 b) (.sl .byte) (datOf g) [.slice A6 (datOf g).length c6]:=r6.mono fun b hb=>⟨⟨by have:=hb.1;have:=n5;omega,hb.2.1⟩,hb.2.2⟩
         have R9:=RM5.below bb
         clear RM5 RB5 r6
         have RM5:=R9
         clear R9
         have P9:=P5.next bb
         have Z9:=Z5.next bb
         have N9:=N5.next bb
         have O9:=O5.next (fun b hb=>by have:=hb.2;have:=n5;omega) bb
         have G9:=G5.next (fun b hb=>by have:=hb.2;have:=n5;omega) bb
         have t9:=Ext.trans t5 bb
         have n9:=Nat.lt_of_lt_of_le n5 bb.size
         refine hK.out _ _ P9 (fun hS'=>?_)
         clear P5 Z5 N5 O5 G5 t5 n5
         have P5:=P9
         have Z5:=Z9
         have N5:=N9
         have O5:=O9
         have G5:=G9
         have t5:=t9
         have n5:=n9
         clear P9 Z9 N9 O9 G9 t9 n9
         clear hK K hS
         have hS:=hS'
         clear hS'
         try simp only [Act.put,zq0,zq1,zq2,zq3,zq4,zq5]
         clear bb
         refine wpAnyH_take (i:=7) (v:=?_) rfl (by kernel_rfl) (by kernel_rfl) (by kernel_rfl) (fun _ _ _ h=>h) (Or.inl ⟨by rfl,?_⟩) hS ?_
         rotate_left
         · (intro w hSw;(try dsimp only at hSw);go_simp;(try with_reducible rfl))
         rotate_left
         simp only [Act.put,zq0,zq1,zq2,zq3,zq4,zq5]
         refine wpAnyH_take (i:=8) (v:=?_) rfl (by kernel_rfl) (by kernel_rfl) (by kernel_rfl) (fun _ _ _ h=>h) (Or.inl ⟨by rfl,?_⟩) hS ?_
         rotate_left
         · (intro w hSw;(try dsimp only at hSw);go_simp;(try with_reducible rfl))
         rotate_left
         simp only [Act.put,zq0,zq1,zq2,zq3,zq4,zq5]
         refine wpAnyH_ready (rs:=[6]) (by kernel_rfl) (by simp) ?_
         refine AllReadyH.cons rfl (fun K hK=>?_) AllReadyH.nil
         rw [if_pos (by rfl)]
         go_simp
         refine (clonei_any S (mksOf g) Am cm _ RM5).mono ?_
         rintro e v6 ⟨⟨vm,rfl,m6⟩,bb⟩
         obtain ⟨A7,c7,rfl⟩:=m6.slice
         have D6:=(D5.below bb).mono (S':=fun b=>(Iv (lo + 1) v6.heap.size b ∧ Live v6 b) ∧ (mksOf g = [] ∨ (Value.slice A7 (mksOf g).length c7).ownBlock ≠ some b)) (fun b hb=>⟨⟨⟨hb.1.1,Nat.lt_of_lt_of_le hb.1.2 bb.size⟩,hb.2.below bb⟩,m6.ne (by have:=hb.1.2;exact this)⟩)
         have M6 : MarksO v6 (Iv (lo + 1) v6.heap.size) 3 (.slice A7 (mksOf g).length c7) (mksOf g):=m6.mono fun b hb=>⟨by have:=hb.1;have:=n5;omega,hb.2⟩
         clear RM5 D5 m6
         have P9:=P5.next bb
         have Z9:=Z5.next bb
         have N9:=N5.next bb
         have O9:=O5.next (fun b hb=>by have:=hb.2;have:=n5;omega) bb
         have G9:=G5.next (fun b hb=>by have:=hb.2;have:=n5;omega) bb
         have t9:=Ext.trans t5 bb
         have n9:=Nat.lt_of_lt_of_le n5 bb.size
         refine hK.out _ _ P9 (fun hS'=>?_)
         clear P5 Z5 N5 O5 G5 t5 n5
         have P5:=P9
         have Z5:=Z9
         have N5:=N9
         have O5:=O9
         have G5:=G9
         have t5:=t9
         have n5:=n9
         clear P9 Z9 N9 O9 G9 t9 n9
         clear hK K hS
         have hS:=hS'
         clear hS'
         try simp only [Act.put,zq0,zq1,zq2,zq3,zq4,zq5]
         clear bb
         refine wpAnyH_ready (rs:=[9]) (by kernel_rfl) (by simp) ?_
         refine AllReadyH.cons rfl (fun K hK=>?_) AllReadyH.nil
         rw [if_pos (by rfl)]
         have fQ:=N5.free
         have yQ:=N5.cell
         go_simp
         clear fQ yQ
         have N9 : BoxOf _ lo #[.int .i64 (nuOf g),.int .u8 ((kiOf g).toNat : Int),.int .i64 (atOf g),.int .i64 (manyOf g),.slice A6 (datOf g).length c6,.slice Am (mksOf g).length cm] 64:=mbox_self N5 4 (.slice A6 (datOf g).length c6)
         have P9:=mbox_else P5 (show w.heap.size ≠ lo by omega) 4 (.slice A6 (datOf g).length c6)
         have Z9:=mbox_else Z5 (show w.heap.size + 1 ≠ lo by omega) 4 (.slice A6 (datOf g).length c6)
         have O9:=OwnE.setElse (k:=lo) O5 (fun h=>by have:=h.2;omega) 4 (.slice A6 (datOf g).length c6)
         have G9:=OwnE.setElse (k:=lo) G5 (fun h=>by have:=h.2;omega) 4 (.slice A6 (datOf g).length c6)
         have t9:=Below.setCell (p:=⟨lo,4,none⟩) t5 (show w.heap.size ≤ lo by omega) (.slice A6 (datOf g).length c6)
         have D9:=D6.setLo 4 (.slice A6 (datOf g).length c6)
         have M9:=M6.setLo 4 (.slice A6 (datOf g).length c6)
         refine hK.out _ _ P9 (fun hS'=>?_)
         clear P5 Z5 N5 O5 G5 t5 n5 D6 M6
         clear hK K hS
         have hS:=hS'
         clear hS'
         try simp only [Act.put,zq0,zq1,zq2,zq3,zq4,zq5]
         refine wpAnyH_take (i:=10) (v:=?_) rfl (by kernel_rfl) (by kernel_rfl) (by kernel_rfl) (fun _ _ _ h=>h) (Or.inl ⟨by rfl,?_⟩) hS ?_
         rotate_left
         · (intro w hSw;(try dsimp only at hSw);go_simp;(try with_reducible rfl))
         rotate_left
         simp only [Act.put,zq0,zq1,zq2,zq3,zq4,zq5]
         refine wpAnyH_ready (rs:=[11]) (by kernel_rfl) (by simp) ?_
         refine AllReadyH.cons rfl (fun K hK=>?_) AllReadyH.nil
         rw [if_pos (by rfl)]
         have fQ:=N9.free
         have yQ:=N9.cell
         go_simp
         clear fQ yQ
         have N8 : BoxOf _ lo #[.int .i64 (nuOf g),.int .u8 ((kiOf g).toNat : Int),.int .i64 (atOf g),.int .i64 (manyOf g),.slice A6 (datOf g).length c6,.slice A7 (mksOf g).length c7] 64:=mbox_self N9 5 (.slice A7 (mksOf g).length c7)
         have P8:=mbox_else P9 (show w.heap.size ≠ lo by omega) 5 (.slice A7 (mksOf g).length c7)
         have Z8:=mbox_else Z9 (show w.heap.size + 1 ≠ lo by omega) 5 (.slice A7 (mksOf g).length c7)
         have O8:=OwnE.setElse (k:=lo) O9 (fun h=>by have:=h.2;omega) 5 (.slice A7 (mksOf g).length c7)
         have G8:=OwnE.setElse (k:=lo) G9 (fun h=>by have:=h.2;omega) 5 (.slice A7 (mksOf g).length c7)
         have t8:=Below.setCell (p:=⟨lo,5,none⟩) t9 (show w.heap.size ≤ lo by omega) (.slice A7 (mksOf g).length c7)
         have D8:=D9.setLo 5 (.slice A7 (mksOf g).length c7)
         have M8:=M9.setLo 5 (.slice A7 (mksOf g).length c7)
         refine hK.out _ _ P8 (fun hS'=>?_)
         clear hK K hS hS' P9 Z9 N9 O9 G9 t9 D9 M9
         try simp only [Act.put,zq0,zq1,zq2,zq3,zq4,zq5]
         generalize (v6.setCell ⟨lo,4,none⟩ (.slice A6 (datOf g).length c6)).setCell ⟨lo,5,none⟩ (.slice A7 (mksOf g).length c7) = v8 at *
         refine wpAnyH_done (by kernel_rfl) ?_ _
         have bb:=Ext.alloc (Below.refl v8.heap.size v8) (.cells #[.int .i64 (nuOf g),.int .u8 ((kiOf g).toNat : Int),.int .i64 (atOf g),.int .i64 (manyOf g),.slice A6 (datOf g).length c6,.slice A7 (mksOf g).length c7] 64)
         have l8:=N8.lt
         have P10:=P8.next bb
         have Z10:=Z8.next bb
         have t10:=Ext.trans t8 bb
         have O10:=O8.next (fun b hb=>by have:=hb.2;omega) bb
         have G10:=G8.next (fun b hb=>by have:=hb.2;omega) bb
         have rd10:=rd_row v8 #[.int .i64 (nuOf g),.int .u8 ((kiOf g).toNat : Int),.int .i64 (atOf g),.int .i64 (manyOf g),.slice A6 (datOf g).length c6,.slice A7 (mksOf g).length c7] 64
         have E10 : (goE 3).E (v8.alloc (.cells #[.int .i64 (nuOf g),.int .u8 ((kiOf g).toNat : Int),.int .i64 (atOf g),.int .i64 (manyOf g),.slice A6 (datOf g).length c6,.slice A7 (mksOf g).length c7] 64)) (Iv lo (v8.alloc (.cells #[.int .i64 (nuOf g),.int .u8 ((kiOf g).toNat : Int),.int .i64 (atOf g),.int .i64 (manyOf g),.slice A6 (datOf g).length c6,.slice A7 (mksOf g).length c7] 64)).heap.size) g [.int .i64 (nuOf g),.int .u8 ((kiOf g).toNat : Int),.int .i64 (atOf g),.int .i64 (manyOf g),.slice A6 (datOf g).length c6,.slice A7 (mksOf g).length c7]:=
          ⟨nuOf g,kiOf g,atOf g,manyOf g,datOf g,mksOf g,_,_,HGE.out,rfl,HI.out,HMA.out.1,HMA.out.2,
            (D8.below bb).mono (fun b hb=>⟨⟨⟨by have:=hb.1.1.1;omega,Nat.lt_of_lt_of_le hb.1.1.2 bb.size⟩,hb.1.2.below bb⟩,hb.2⟩),(M8.frame fun b hb=>bb.block b hb.2).mono fun b hb=>⟨by have:=hb.1;omega,Nat.lt_of_lt_of_le hb.2 bb.size⟩⟩
         have hlo : lo ≤ (v8.alloc (.cells #[.int .i64 (nuOf g),.int .u8 ((kiOf g).toNat : Int),.int .i64 (atOf g),.int .i64 (manyOf g),.slice A6 (datOf g).length c6,.slice A7 (mksOf g).length c7] 64)).heap.size:=Nat.le_trans (Nat.le_of_lt l8) bb.size
         have hgl : (gs.take j).length = j:=by rw [List.length_take];have:=HLJ.out;omega
         have HBY : Hid ((gs.take j).length + 1 ≤ maxLen ∧ ((gs.take j).length + 1) * 80 ≤ 140737488355328):=by
          have h1:=HGM.out
          have h2:=hgz.out
          have h3:=HLJ.out
          show _ ∧ _
          rw [hgl]
          omega
         have HTL : Hid (∀ (A : Option Addr) (c : Nat),Value.slice A ((gs.take j) ++ [g]).length c = Value.slice A (j + 1) c):=fun A c=>by
          rw [List.length_append,hgl]
          rfl
         have z8:=Z8.cell
         have n8:=N8.cell
         have z10:=Z10.cell
         have f10:=Z10.free
         clear hgl P8 Z8 N8 O8 G8 t8 D8 M8 bb l8
         go_wp2_with (at_builtin;refine wpList_pushI rfl (.tmp 54) (.tmp 56) 26 rfl m lo 64 ig _ 80 Try.underlying26 hig hg0 hg1 hg2 rfl (by decide) u (gs.take j) rfl G10 hlo hml (some ⟨v8.heap.size,0,none⟩) 1 _ rfl rd10 g E10 HBY.out.1 HBY.out.2 ?_;intro vz wz Oz gz kz;obtain ⟨A10,c10,e10⟩:=Oz.slice;have e11:=e10.trans (HTL.out A10 c10);subst e11;have Pz:=P10.grown gz (fun e=>by have:=kz _ e;omega);have Zz:=Z10.grown gz (fun e=>by have:=kz _ e;omega);have tz:=Below.grown t10 gz t10.size (fun r e=>by have:=kz r e;omega);have Oy:=O10.frame (fun b hb=>gz.block b (by have:=hb.2;omega) (fun e=>by have:=kz _ e.symm;have:=hb.2;omega));have Oz2:=OwnE.cast HST.out.symm Oz;have HNz:=Lib.hid (Nat.le_trans hml (Nat.le_trans hlo gz.size));have yz:=Zz.cell;have fz:=Zz.free;clear z8 n8 z10 f10 P10 Z10 t10 O10 G10 E10 rd10 gz kz Oz e10)
         have Z12 : BoxOf _ (w.heap.size + 1) #[.slice Ay ys.length cy,.slice A10 (j + 1) c10] 28:=mbox_self Zz 1 (.slice A10 (j + 1) c10)
         have P12:=mbox_else Pz (show w.heap.size ≠ w.heap.size + 1 by omega) 1 (.slice A10 (j + 1) c10)
         have O12:=OwnE.setElse (k:=w.heap.size + 1) Oy (fun h=>by have:=h.1;omega) 1 (.slice A10 (j + 1) c10)
         have G12:=OwnE.setElse (k:=w.heap.size + 1) Oz2 (fun h=>by have:=h.1;omega) 1 (.slice A10 (j + 1) c10)
         have t12:=Below.setCell (p:=⟨w.heap.size + 1,1,none⟩) tz (show w.heap.size ≤ w.heap.size + 1 by omega) (.slice A10 (j + 1) c10)
         go_roundw
         case rel=>exact ⟨j + 1,_,HLJ.out,by first | exact round_same HWJ | go_num,t12,P12,Z12,O12,(by rw [msize];exact G12),(show Hid (m ≤ _) from by show m ≤ _;rw [msize];exact HNz.out)⟩
         case measure=>first | exact round_less HWJ HLJ.out | (have h:=HLJ.out;simp [intOf];omega)
     · have hje : gs.take j = gs:=List.take_of_length_le (by omega)
       rw [hje] at G1
       obtain ⟨Ag,ag,rfl⟩:=G1.slice
       have HO:=Lib.hid O1
       have HGG:=Lib.hid G1
       clear hje O1 G1 hj
       have z1:=Z1.cell
       have f1:=Z1.free
       go_wp2
       have B5 : BoxOf _ (w.heap.size + 1) #[.slice Ay ys.length cy,.slice Ag gs.length ag] 28:=mbox_self (mbox_self Z1 0 (.slice Ay ys.length cy)) 1 (.slice Ag gs.length ag)
       have T5:=Below.setCell (p:=⟨w.heap.size + 1,1,none⟩) (Below.setCell (p:=⟨w.heap.size + 1,0,none⟩) t1 (show w.heap.size ≤ w.heap.size + 1 by omega) (.slice Ay ys.length cy)) (show w.heap.size ≤ w.heap.size + 1 by omega) (.slice Ag gs.length ag)
       have O5:=OwnE.setElse (k:=w.heap.size + 1) (OwnE.setElse (k:=w.heap.size + 1) HO.out (fun h=>by have:=h.1;omega) 0 (.slice Ay ys.length cy)) (fun h=>by have:=h.1;omega) 1 (.slice Ag gs.length ag)
       have G5:=OwnE.setElse (k:=w.heap.size + 1) (OwnE.setElse (k:=w.heap.size + 1) HGG.out (fun h=>by have:=h.1;omega) 0 (.slice Ay ys.length cy)) (fun h=>by have:=h.1;omega) 1 (.slice Ag gs.length ag)
       refine bodyPost_ret (v:=.agg #[.slice Ay ys.length cy,.slice Ag gs.length ag]) (results_cell_row rfl _ _ (w.heap.size + 1) 28 #[.slice Ay ys.length cy,.slice Ag gs.length ag] (0,0) _ rfl B5 Try.underlying28 rfl (by kernel_rfl)) rfl ⟨⟨_,_,m,rfl,by omega,by simp only [msize];exact HN1.out,OwnE.base0 (base:=base) (OwnE.mono (F':=Iv w.heap.size m) O5 fun b hb=>⟨by have:=hb.1;omega,hb.2⟩) (by omega),by simp only [msize];exact G5⟩,T5⟩
end Go.Proofs.Ytclbihcggjjgaaa
namespace Go.Proofs.Ytclbihcggjjgaaa
open Go Go.RowKit
set_option linter.unusedSimpArgs false
set_option linter.unusedVariables false
theorem Own.rdin {w : World} {base g : Nat} {l : List UInt8} (h : Own w base g l) (hl : l.length = 128) : RdIn w (NewB base w) (.sl .byte) l [.slice (some ⟨g,0,none⟩) 128 128]:=by
 unfold Own at h
 exact (OwnL.of_bytes (bs:=l) (by rw [hl];exact h)).bytes_rdin (by rw [hl];decide)
theorem wp_make_full {P : Program} (w : World) {o : Oper} {a : Act} {K : Act → World → Prop} {Q : Exit → Act → World → Prop}
 (l c : Operand) (t : TypeId) (hop : o.op = Op.makeSlice t l c)
 (base : Nat) (e : TypeId) (i : TypeInfo) (z : Value) (size : Nat) (h1 : P.underlying t = some (.slice e)) (h2 : P.info? e = some i) (h3 : i.zero = some z) (h4 : i.size = size)
 (kl kc : IntKind) (L C : Int) (n : Nat) (hl : a.eval l = .int kl L) (hc : a.eval c = .int kc C) (hL : L = (n : Int)) (hC : C = (n : Int)) (b2 : i.bytes * n ≤ 281474976710656) (b3 : n ≤ maxLen) (b4 : base ≤ w.heap.size)
 (hK : ∀ w',w'.ownsRow base e size (.slice (some ⟨w.heap.size,0,none⟩) n n) n (madeCells z.cells (n * size)).toList → w.grownBy w' none → K (a.put o.dst (.slice (some ⟨w.heap.size,0,none⟩) n n)) w') :
 o.wp P a w K Q:=by
 obtain ⟨w',hrun,r1,r2⟩:=run_make_full (P:=P) w base t e i z size h1 h2 h3 h4 kl kc n b2 b3 b4
 subst hL
 subst hC
 unfold Oper.wp
 simp [execOp,hop,hl,hc,hrun,Result.andThen]
 exact hK w' r1 r2
def nulls (n : Nat) : List (List (List UInt8)):=List.replicate n [zeros]
theorem nulls_step (n : Nat) : nulls (n + 1) = nulls n ++ [[zeros]]:=List.replicate_succ'
theorem nulls_len (n : Nat) : (nulls n).length = n:=List.length_replicate
def NewRel (x : Cfg) (v : Int) (ys : List (List (List UInt8))) : Prop:=(¬ x.Ok ∧ v = 8 ∧ ys = []) ∨ (x.Ok ∧ v = 0 ∧ ys = nulls (x.c * x.r * (x.m - 1)).toNat)
theorem NewRel.one {x : Cfg} {v v' : Int} {ys zs : List (List (List UInt8))} (h : NewRel x v ys) (h' : NewRel x v' zs) : v = v' ∧ ys = zs:=by
 rcases h with ⟨h1,rfl,rfl⟩ | ⟨h1,rfl,rfl⟩ <;> rcases h' with ⟨k1,rfl,rfl⟩ | ⟨k1,rfl,rfl⟩ <;> first | exact ⟨rfl,rfl⟩ | exact absurd h1 k1 | exact absurd k1 h1
def NewIs (base : Nat) (x : Cfg) (e : Ending) (w : World) : Prop:=
 ∃ (v : Int) (ys : List (List (List UInt8))) (A' : Option Addr) (c' : Nat),e = .returned (.tuple #[.agg #[.slice A' ys.length c',.slice none 0 0],.int .i64 v]) ∧ NewRel x v ys ∧ RdIn w (NewB base w) (.sl (.sl (.sl .byte))) ys [.slice A' ys.length c']
set_option maxRecDepth 100000 in
set_option maxHeartbeats 4000000 in
theorem snew_any (x : Cfg) (w : World) : Calls Try.prog 29 #[x.val] w fun e w'=>NewIs w.heap.size x e w' ∧ Below w.heap.size w w':=by
 obtain ⟨il,hil,hl0,hl1,hl2⟩:=minfo_lists
 obtain ⟨iu,hu,hu0,hu1,hu2⟩:=minfo_u8
 by_cases hx : x.Ok
 · have HB:=Lib.hid (blocks_ok x hx)
   have HX:=Lib.hid hx
   have hcr:=Cfg.crm hx
   obtain ⟨N,hN⟩ : ∃ n : Nat,x.c * x.r * (x.m - 1) = (n : Int):=⟨(x.c * x.r * (x.m - 1)).toNat,by omega⟩
   have hN9 : N ≤ 1000:=by omega
   have HNN : Hid ((x.c * x.r * (x.m - 1)).toNat = N):=by show _ = _;omega
   rw [hN] at HB
   clear hcr hN hx
   obtain ⟨id,m,c,r,l,h⟩:=x
   unfold Cfg.val at *
   dsimp only at *
   have C0:=BoxOf.alloc (BoxOf.new w #[.int .u32 (id : Int),.int .i64 m,.int .i64 c,.int .i64 r,.int .i64 l,.int .i64 h] 24) (.cells #[.slice none 0 0,.slice none 0 0] 28)
   have Z0:=BoxOf.new' (w.alloc (.cells #[.int .u32 (id : Int),.int .i64 m,.int .i64 c,.int .i64 r,.int .i64 l,.int .i64 h] 24)) (w.heap.size + 1) #[.slice none 0 0,.slice none 0 0] 28 (by simp)
   have t0:=Ext.alloc (Ext.alloc (Below.refl w.heap.size w) (.cells #[.int .u32 (id : Int),.int .i64 m,.int .i64 c,.int .i64 r,.int .i64 l,.int .i64 h] 24)) (.cells #[.slice none 0 0,.slice none 0 0] 28)
   go_enter Try.func29,Try.ntmps29
   go_upto_region 1 with fail
   generalize (w.alloc (.cells #[.int .u32 (id : Int),.int .i64 m,.int .i64 c,.int .i64 r,.int .i64 l,.int .i64 h] 24)).alloc (.cells #[.slice none 0 0,.slice none 0 0] 28) = W at *
   have x0:=C0.cell
   go_wp2_with fail
   refine (HB.out _).mono ?_
   rintro e w1 ⟨rfl,b1⟩
   have C1:=C0.next b1
   have Z1:=Z0.next b1
   have t1:=Ext.trans t0 b1
   obtain ⟨base,hbase⟩ : ∃ z : Nat,z = w.heap.size + 2:=⟨_,rfl⟩
   have hb2 : base ≤ w1.heap.size:=by have:=Z1.lt;omega
   have HBS:=Lib.hid hbase
   have HB2:=Lib.hid hb2
   clear x0 C0 Z0 t0 b1 hbase hb2
   go_wp2
   go_loopw [15] (fun i wr=>∃ (j : Nat) (v : Value),j ≤ N ∧ i = .int .i64 j ∧ Below w.heap.size w wr ∧ BoxOf wr w.heap.size #[.int .u32 (id : Int),.int .i64 m,.int .i64 c,.int .i64 r,.int .i64 l,.int .i64 h] 24 ∧ BoxOf wr (w.heap.size + 1) #[v,.slice none 0 0] 28 ∧ OwnL wr base 30 (.sl (.sl .byte)) v (nulls j) ∧ Hid (base ≤ wr.heap.size)) (fun i _=>N - (intOf i).toNat)
   case atStart=>exact ⟨0,.slice none 0 0,by omega,rfl,t1,C1,Z1,OwnL.nil _ _ _ _,HB2⟩
   case round=>
    obtain ⟨j,v,hj,rfl,t3,P4,Z4,O4,HB4⟩:=hrel
    clear t1 C1 Z1
    by_cases hlt : j < N
    · have HWJ:=next_wrap (show N ≤ maxLen by unfold maxLen;omega) hlt
      have HLJ:=Lib.hid hlt
      have HBY : Hid ((nulls j).length + 1 ≤ maxLen ∧ ((nulls j).length + 1) * 24 ≤ 140737488355328):=by
       show _ ∧ _
       rw [nulls_len]
       unfold maxLen
       omega
      have HTL : Hid (∀ (A : Option Addr) (c : Nat),Value.slice A ((nulls j) ++ [[zeros]]).length c = Value.slice A (j + 1) c):=fun A c=>by
       rw [List.length_append,nulls_len]
       rfl
      go_upto_region 6 with fail
      have P5:=P4.drew
      have Z5:=Z4.drew
      have O5:=O4.next (Ext.drew (Below.refl wr.heap.size wr))
      have t5:=Ext.drew t3
      have n5 : base ≤ wr.drew.heap.size:=HB4.out
      refine wp_region_held_drew (S:=fun w'=>BoxOf w' w.heap.size #[.int .u32 (id : Int),.int .i64 m,.int .i64 c,.int .i64 r,.int .i64 l,.int .i64 h] 24) (by kernel_rfl) P5 (fun hS=>?_)
      clear P4 Z4 O4 t3
      generalize wr.drew = wd at *
      refine wpAnyH_take (i:=0) (v:=?_) rfl (by kernel_rfl) (by kernel_rfl) (by kernel_rfl) (fun _ _ _ h=>h) (Or.inl ⟨by rfl,?_⟩) hS ?_
      rotate_left
      · (intro w hSw;(try dsimp only at hSw);go_simp;(try with_reducible rfl))
      rotate_left
      simp only [Act.put,zq0,zq1,zq2,zq3,zq4,zq5]
      refine wpAnyH_ready (rs:=[1,2]) (by kernel_rfl) (by simp) ?_
      refine AllReadyH.cons rfl (fun K hK=>?_) (AllReadyH.cons rfl (fun K hK=>?_) AllReadyH.nil)
      · rw [if_pos (by rfl)]
        have yQ:=Z5.cell
        go_simp
        refine hK.out _ _ P5 (fun hS'=>?_)
        clear yQ hK K hS
        have hS:=hS'
        clear hS'
        try simp only [Act.put,zq0,zq1,zq2,zq3,zq4,zq5]
        refine wpAnyH_ready (rs:=[2]) (by kernel_rfl) (by simp) ?_
        refine AllReadyH.cons rfl (fun K hK=>?_) AllReadyH.nil
        rw [if_pos (by rfl)]
        refine wp_make_full wd (.const (.int .i64 128)) (.const (.int .i64 128)) 29 rfl wd.heap.size 5 iu (.int .u8 0) 1 Try.underlying29 hu hu0 hu1 .i64 .i64 128 128 128 rfl rfl rfl rfl (by rw [hu2];omega) (by unfold maxLen;omega) (Nat.le_refl _) ?_
        intro v5 own5 g5
        rw [made_zeros] at own5
        have bb:=Ext.grown (Below.refl _ _) g5 (by simp)
        have r6:=Own.rdin own5 (show zeros.length = 128 from rfl)
        have F6:=own_apart r6 (OwnL.lt O5) n5
        obtain ⟨g6,hg6⟩ : ∃ z : Nat,z = wd.heap.size:=⟨_,rfl⟩
        rw [← hg6] at F6
        clear r6 own5 g5
        have P9:=P5.next bb
        have Z9:=Z5.next bb
        have O9:=O5.next bb
        have t9:=Ext.trans t5 bb
        have n9:=Nat.le_trans n5 bb.size
        refine hK.out _ _ P9 (fun hS'=>?_)
        clear P5 Z5 O5 t5 n5 hK K hS
        have P5:=P9
        have Z5:=Z9
        have O5:=O9
        have t5:=t9
        have n5:=n9
        have hS:=hS'
        clear hS' P9 Z9 O9 t9 n9
        try simp only [Act.put,zq0,zq1,zq2,zq3,zq4,zq5]
        clear bb
        rw [← hg6]
        clear hg6
        refine wpAnyH_ready (rs:=[3]) (by kernel_rfl) (by simp) ?_
        refine AllReadyH.cons rfl (fun K hK=>?_) AllReadyH.nil
        rw [if_pos (by rfl)]
        go_simp
        have bb:=Ext.alloc (Below.refl v5.heap.size v5) (.cells #[.slice (some ⟨g6,0,none⟩) 128 128] 29)
        have F7:=one_list (OwnL.lt O5) n5 F6 29
        clear F6
        obtain ⟨g7,hg7⟩ : ∃ z : Nat,z = v5.heap.size:=⟨_,rfl⟩
        rw [← hg7] at F7
        have P9:=P5.next bb
        have Z9:=Z5.next bb
        have O9:=O5.next bb
        have t9:=Ext.trans t5 bb
        have n9:=Nat.le_trans n5 bb.size
        refine hK.out _ _ P9 (fun hS'=>?_)
        clear P5 Z5 O5 t5 n5 hK K hS
        have P5:=P9
        have Z5:=Z9
        have O5:=O9
        have t5:=t9
        have n5:=n9
        have hS:=hS'
        clear hS' P9 Z9 O9 t9 n9
        try simp only [Act.put,zq0,zq1,zq2,zq3,zq4,zq5]
        clear bb
        rw [← hg7]
        clear hg7
        generalize v5.alloc (.cells #[.slice (some ⟨g6,0,none⟩) 128 128] 29) = v7 at *
        refine wpAnyH_ready (rs:=[4]) (by kernel_rfl) (by simp) ?_
        refine AllReadyH.cons rfl (fun K hK=>?_) AllReadyH.nil
        rw [if_pos (by rfl)]
        go_simp
        have bb:=Ext.alloc (Below.refl v7.heap.size v7) (.cells #[.slice (some ⟨g7,0,none⟩) 1 1] 30)
        have rd8:=rd_row v7 #[.slice (some ⟨g7,0,none⟩) 1 1] 30
        have F8:=(F7.below bb).mono (fun b hb=>Fresh.next hb bb)
        clear F7
        obtain ⟨g8,hg8⟩ : ∃ z : Nat,z = v7.heap.size:=⟨_,rfl⟩
        rw [← hg8] at rd8
        have P9:=P5.next bb
        have Z9:=Z5.next bb
        have O9:=O5.next bb
        have t9:=Ext.trans t5 bb
        have n9:=Nat.le_trans n5 bb.size
        refine hK.out _ _ P9 (fun hS'=>?_)
        clear P5 Z5 O5 t5 n5 hK K hS
        have P5:=P9
        have Z5:=Z9
        have O5:=O9
        have t5:=t9
        have n5:=n9
        have hS:=hS'
        clear hS' P9 Z9 O9 t9 n9
        try simp only [Act.put,zq0,zq1,zq2,zq3,zq4,zq5]
        clear bb
        rw [← hg8]
        clear hg8
        generalize v7.alloc (.cells #[.slice (some ⟨g7,0,none⟩) 1 1] 30) = v8 at *
        refine wpAnyH_ready (rs:=[5]) (by kernel_rfl) (by simp) ?_
        refine AllReadyH.cons rfl (fun K hK=>?_) AllReadyH.nil
        rw [if_pos (by rfl)]
        refine wp_push (.tmp 18) (.tmp 21) 25 rfl base 30 il _ 24 (.sl (.sl .byte)) Try.underlying25 hil hl0 hl1 hl2 rfl (by decide) v (nulls j) rfl O5 (some ⟨g8,0,none⟩) 1 _ rfl rd8 _ F8 HBY.out.1 HBY.out.2 n5 ?_
        intro u9 w9 O9 gr9 k9
        have hb3:=HBS.out
        have P9:=P5.grown gr9 (fun e=>by have:=k9 _ e;omega)
        have Z9:=Z5.grown gr9 (fun e=>by have:=k9 _ e;omega)
        have t9:=Below.grown t5 gr9 t5.size (fun r e=>by have:=k9 r e;omega)
        have n9:=Nat.le_trans n5 gr9.size
        refine hK.out _ _ P9 (fun hS'=>?_)
        clear P5 Z5 O5 t5 n5 k9 gr9 F8 rd8 hK K hS
        have hS:=hS'
        clear hS'
        obtain ⟨A10,c10,e10⟩:=OwnL.slice O9
        have e11:=e10.trans (HTL.out A10 c10)
        clear e10
        subst e11
        try simp only [Act.put,zq0,zq1,zq2,zq3,zq4,zq5]
        refine wpAnyH_take (i:=6) (v:=?_) rfl (by kernel_rfl) (by kernel_rfl) (by kernel_rfl) (fun _ _ _ h=>h) (Or.inl ⟨by rfl,?_⟩) hS ?_
        rotate_left
        · (intro w hSw;(try dsimp only at hSw);go_simp;(try with_reducible rfl))
        rotate_left
        simp only [Act.put,zq0,zq1,zq2,zq3,zq4,zq5]
        refine wpAnyH_ready (rs:=[7]) (by kernel_rfl) (by simp) ?_
        refine AllReadyH.cons rfl (fun K hK=>?_) AllReadyH.nil
        rw [if_pos (by rfl)]
        have fQ:=Z9.free
        have yQ:=Z9.cell
        go_simp
        clear fQ yQ
        have Z10 : BoxOf _ (w.heap.size + 1) #[.slice A10 (j + 1) c10,.slice none 0 0] 28:=mbox_self Z9 0 (.slice A10 (j + 1) c10)
        have P10:=mbox_else P9 (show w.heap.size ≠ w.heap.size + 1 by omega) 0 (.slice A10 (j + 1) c10)
        have O10:=OwnL.setElse (k:=w.heap.size + 1) (OwnL.cast (nulls_step j).symm O9) (by omega) 0 (.slice A10 (j + 1) c10)
        have t10:=Below.setCell (p:=⟨w.heap.size + 1,0,none⟩) t9 (show w.heap.size ≤ w.heap.size + 1 by omega) (.slice A10 (j + 1) c10)
        refine hK.out _ _ P10 (fun hS'=>?_)
        clear hK K hS hS' Z9 P9 O9 t9
        try simp only [Act.put,zq0,zq1,zq2,zq3,zq4,zq5]
        refine wpAnyH_done (by kernel_rfl) ?_ _
        have HN9 : Hid (base ≤ w9.heap.size):=n9
        have LJ:=HLJ.out
        clear n9 hb3
        go_wp2
        go_roundw
        case rel=>exact ⟨j + 1,_,LJ,by first | exact round_same HWJ | go_num,t10,P10,Z10,O10,(show Hid (base ≤ _) from by show base ≤ _;rw [msize];exact HN9.out)⟩
        case measure=>first | exact round_less HWJ LJ | (have h:=LJ;simp [intOf];omega)
      · rw [if_pos (by rfl)]
        refine wp_make_full wd (.const (.int .i64 128)) (.const (.int .i64 128)) 29 rfl wd.heap.size 5 iu (.int .u8 0) 1 Try.underlying29 hu hu0 hu1 .i64 .i64 128 128 128 rfl rfl rfl rfl (by rw [hu2];omega) (by unfold maxLen;omega) (Nat.le_refl _) ?_
        intro v5 own5 g5
        rw [made_zeros] at own5
        have bb:=Ext.grown (Below.refl _ _) g5 (by simp)
        have r6:=Own.rdin own5 (show zeros.length = 128 from rfl)
        have F6:=own_apart r6 (OwnL.lt O5) n5
        obtain ⟨g6,hg6⟩ : ∃ z : Nat,z = wd.heap.size:=⟨_,rfl⟩
        rw [← hg6] at F6
        clear r6 own5 g5
        have P9:=P5.next bb
        have Z9:=Z5.next bb
        have O9:=O5.next bb
        have t9:=Ext.trans t5 bb
        have n9:=Nat.le_trans n5 bb.size
        refine hK.out _ _ P9 (fun hS'=>?_)
        clear P5 Z5 O5 t5 n5 hK K hS
        have P5:=P9
        have Z5:=Z9
        have O5:=O9
        have t5:=t9
        have n5:=n9
        have hS:=hS'
        clear hS' P9 Z9 O9 t9 n9
        try simp only [Act.put,zq0,zq1,zq2,zq3,zq4,zq5]
        clear bb
        rw [← hg6]
        clear hg6
        refine wpAnyH_ready (rs:=[1,3]) (by kernel_rfl) (by simp) ?_
        refine AllReadyH.cons rfl (fun K hK=>?_) (AllReadyH.cons rfl (fun K hK=>?_) AllReadyH.nil)
        · rw [if_pos (by rfl)]
          have yQ:=Z5.cell
          go_simp
          refine hK.out _ _ P5 (fun hS'=>?_)
          clear yQ hK K hS
          have hS:=hS'
          clear hS'
          try simp only [Act.put,zq0,zq1,zq2,zq3,zq4,zq5]
          refine wpAnyH_ready (rs:=[3]) (by kernel_rfl) (by simp) ?_
          refine AllReadyH.cons rfl (fun K hK=>?_) AllReadyH.nil
          rw [if_pos (by rfl)]
          go_simp
          have bb:=Ext.alloc (Below.refl v5.heap.size v5) (.cells #[.slice (some ⟨g6,0,none⟩) 128 128] 29)
          have F7:=one_list (OwnL.lt O5) n5 F6 29
          clear F6
          obtain ⟨g7,hg7⟩ : ∃ z : Nat,z = v5.heap.size:=⟨_,rfl⟩
          rw [← hg7] at F7
          have P9:=P5.next bb
          have Z9:=Z5.next bb
          have O9:=O5.next bb
          have t9:=Ext.trans t5 bb
          have n9:=Nat.le_trans n5 bb.size
          refine hK.out _ _ P9 (fun hS'=>?_)
          clear P5 Z5 O5 t5 n5 hK K hS
          have P5:=P9
          have Z5:=Z9
          have O5:=O9
          have t5:=t9
          have n5:=n9
          have hS:=hS'
          clear hS' P9 Z9 O9 t9 n9
          try simp only [Act.put,zq0,zq1,zq2,zq3,zq4,zq5]
          clear bb
          rw [← hg7]
          clear hg7
          generalize v5.alloc (.cells #[.slice (some ⟨g6,0,none⟩) 128 128] 29) = v7 at *
          refine wpAnyH_ready (rs:=[4]) (by kernel_rfl) (by simp) ?_
          refine AllReadyH.cons rfl (fun K hK=>?_) AllReadyH.nil
          rw [if_pos (by rfl)]
          go_simp
          have bb:=Ext.alloc (Below.refl v7.heap.size v7) (.cells #[.slice (some ⟨g7,0,none⟩) 1 1] 30)
          have rd8:=rd_row v7 #[.slice (some ⟨g7,0,none⟩) 1 1] 30
          have F8:=(F7.below bb).mono (fun b hb=>Fresh.next hb bb)
          clear F7
          obtain ⟨g8,hg8⟩ : ∃ z : Nat,z = v7.heap.size:=⟨_,rfl⟩
          rw [← hg8] at rd8
          have P9:=P5.next bb
          have Z9:=Z5.next bb
          have O9:=O5.next bb
          have t9:=Ext.trans t5 bb
          have n9:=Nat.le_trans n5 bb.size
          refine hK.out _ _ P9 (fun hS'=>?_)
          clear P5 Z5 O5 t5 n5 hK K hS
          have P5:=P9
          have Z5:=Z9
          have O5:=O9
          have t5:=t9
          have n5:=n9
          have hS:=hS'
          clear hS' P9 Z9 O9 t9 n9
          try simp only [Act.put,zq0,zq1,zq2,zq3,zq4,zq5]
          clear bb
          rw [← hg8]
          clear hg8
          generalize v7.alloc (.cells #[.slice (some ⟨g7,0,none⟩) 1 1] 30) = v8 at *
          refine wpAnyH_ready (rs:=[5]) (by kernel_rfl) (by simp) ?_
          refine AllReadyH.cons rfl (fun K hK=>?_) AllReadyH.nil
          rw [if_pos (by rfl)]
          refine wp_push (.tmp 18) (.tmp 21) 25 rfl base 30 il _ 24 (.sl (.sl .byte)) Try.underlying25 hil hl0 hl1 hl2 rfl (by decide) v (nulls j) rfl O5 (some ⟨g8,0,none⟩) 1 _ rfl rd8 _ F8 HBY.out.1 HBY.out.2 n5 ?_
          intro u9 w9 O9 gr9 k9
          have hb3:=HBS.out
          have P9:=P5.grown gr9 (fun e=>by have:=k9 _ e;omega)
          have Z9:=Z5.grown gr9 (fun e=>by have:=k9 _ e;omega)
          have t9:=Below.grown t5 gr9 t5.size (fun r e=>by have:=k9 r e;omega)
          have n9:=Nat.le_trans n5 gr9.size
          refine hK.out _ _ P9 (fun hS'=>?_)
          clear P5 Z5 O5 t5 n5 k9 gr9 F8 rd8 hK K hS
          have hS:=hS'
          clear hS'
          obtain ⟨A10,c10,e10⟩:=OwnL.slice O9
          have e11:=e10.trans (HTL.out A10 c10)
          clear e10
          subst e11
          try simp only [Act.put,zq0,zq1,zq2,zq3,zq4,zq5]
          refine wpAnyH_take (i:=6) (v:=?_) rfl (by kernel_rfl) (by kernel_rfl) (by kernel_rfl) (fun _ _ _ h=>h) (Or.inl ⟨by rfl,?_⟩) hS ?_
          rotate_left
          · (intro w hSw;(try dsimp only at hSw);go_simp;(try with_reducible rfl))
          rotate_left
          simp only [Act.put,zq0,zq1,zq2,zq3,zq4,zq5]
          refine wpAnyH_ready (rs:=[7]) (by kernel_rfl) (by simp) ?_
          refine AllReadyH.cons rfl (fun K hK=>?_) AllReadyH.nil
          rw [if_pos (by rfl)]
          have fQ:=Z9.free
          have yQ:=Z9.cell
          go_simp
          clear fQ yQ
          have Z10 : BoxOf _ (w.heap.size + 1) #[.slice A10 (j + 1) c10,.slice none 0 0] 28:=mbox_self Z9 0 (.slice A10 (j + 1) c10)
          have P10:=mbox_else P9 (show w.heap.size ≠ w.heap.size + 1 by omega) 0 (.slice A10 (j + 1) c10)
          have O10:=OwnL.setElse (k:=w.heap.size + 1) (OwnL.cast (nulls_step j).symm O9) (by omega) 0 (.slice A10 (j + 1) c10)
          have t10:=Below.setCell (p:=⟨w.heap.size + 1,0,none⟩) t9 (show w.heap.size ≤ w.heap.size + 1 by omega) (.slice A10 (j + 1) c10)
          refine hK.out _ _ P10 (fun hS'=>?_)
          clear hK K hS hS' Z9 P9 O9 t9
          try simp only [Act.put,zq0,zq1,zq2,zq3,zq4,zq5]
          refine wpAnyH_done (by kernel_rfl) ?_ _
          have HN9 : Hid (base ≤ w9.heap.size):=n9
          have LJ:=HLJ.out
          clear n9 hb3
          go_wp2
          go_roundw
          case rel=>exact ⟨j + 1,_,LJ,by first | exact round_same HWJ | go_num,t10,P10,Z10,O10,(show Hid (base ≤ _) from by show base ≤ _;rw [msize];exact HN9.out)⟩
          case measure=>first | exact round_less HWJ LJ | (have h:=LJ;simp [intOf];omega)
        · rw [if_pos (by rfl)]
          go_simp
          have bb:=Ext.alloc (Below.refl v5.heap.size v5) (.cells #[.slice (some ⟨g6,0,none⟩) 128 128] 29)
          have F7:=one_list (OwnL.lt O5) n5 F6 29
          clear F6
          obtain ⟨g7,hg7⟩ : ∃ z : Nat,z = v5.heap.size:=⟨_,rfl⟩
          rw [← hg7] at F7
          have P9:=P5.next bb
          have Z9:=Z5.next bb
          have O9:=O5.next bb
          have t9:=Ext.trans t5 bb
          have n9:=Nat.le_trans n5 bb.size
          refine hK.out _ _ P9 (fun hS'=>?_)
          clear P5 Z5 O5 t5 n5 hK K hS
          have P5:=P9
          have Z5:=Z9
          have O5:=O9
          have t5:=t9
          have n5:=n9
          have hS:=hS'
          clear hS' P9 Z9 O9 t9 n9
          try simp only [Act.put,zq0,zq1,zq2,zq3,zq4,zq5]
          clear bb
          rw [← hg7]
          clear hg7
          generalize v5.alloc (.cells #[.slice (some ⟨g6,0,none⟩) 128 128] 29) = v7 at *
          refine wpAnyH_ready (rs:=[1,4]) (by kernel_rfl) (by simp) ?_
          refine AllReadyH.cons rfl (fun K hK=>?_) (AllReadyH.cons rfl (fun K hK=>?_) AllReadyH.nil)
          · rw [if_pos (by rfl)]
            have yQ:=Z5.cell
            go_simp
            refine hK.out _ _ P5 (fun hS'=>?_)
            clear yQ hK K hS
            have hS:=hS'
            clear hS'
            try simp only [Act.put,zq0,zq1,zq2,zq3,zq4,zq5]
            refine wpAnyH_ready (rs:=[4]) (by kernel_rfl) (by simp) ?_
            refine AllReadyH.cons rfl (fun K hK=>?_) AllReadyH.nil
            rw [if_pos (by rfl)]
            go_simp
            have bb:=Ext.alloc (Below.refl v7.heap.size v7) (.cells #[.slice (some ⟨g7,0,none⟩) 1 1] 30)
            have rd8:=rd_row v7 #[.slice (some ⟨g7,0,none⟩) 1 1] 30
            have F8:=(F7.below bb).mono (fun b hb=>Fresh.next hb bb)
            clear F7
            obtain ⟨g8,hg8⟩ : ∃ z : Nat,z = v7.heap.size:=⟨_,rfl⟩
            rw [← hg8] at rd8
            have P9:=P5.next bb
            have Z9:=Z5.next bb
            have O9:=O5.next bb
            have t9:=Ext.trans t5 bb
            have n9:=Nat.le_trans n5 bb.size
            refine hK.out _ _ P9 (fun hS'=>?_)
            clear P5 Z5 O5 t5 n5 hK K hS
            have P5:=P9
            have Z5:=Z9
            have O5:=O9
            have t5:=t9
            have n5:=n9
            have hS:=hS'
            clear hS' P9 Z9 O9 t9 n9
            try simp only [Act.put,zq0,zq1,zq2,zq3,zq4,zq5]
            clear bb
            rw [← hg8]
            clear hg8
            generalize v7.alloc (.cells #[.slice (some ⟨g7,0,none⟩) 1 1] 30) = v8 at *
            refine wpAnyH_ready (rs:=[5]) (by kernel_rfl) (by simp) ?_
            refine AllReadyH.cons rfl (fun K hK=>?_) AllReadyH.nil
            rw [if_pos (by rfl)]
            refine wp_push (.tmp 18) (.tmp 21) 25 rfl base 30 il _ 24 (.sl (.sl .byte)) Try.underlying25 hil hl0 hl1 hl2 rfl (by decide) v (nulls j) rfl O5 (some ⟨g8,0,none⟩) 1 _ rfl rd8 _ F8 HBY.out.1 HBY.out.2 n5 ?_
            intro u9 w9 O9 gr9 k9
            have hb3:=HBS.out
            have P9:=P5.grown gr9 (fun e=>by have:=k9 _ e;omega)
            have Z9:=Z5.grown gr9 (fun e=>by have:=k9 _ e;omega)
            have t9:=Below.grown t5 gr9 t5.size (fun r e=>by have:=k9 r e;omega)
            have n9:=Nat.le_trans n5 gr9.size
            refine hK.out _ _ P9 (fun hS'=>?_)
            clear P5 Z5 O5 t5 n5 k9 gr9 F8 rd8 hK K hS
            have hS:=hS'
            clear hS'
            obtain ⟨A10,c10,e10⟩:=OwnL.slice O9
            have e11:=e10.trans (HTL.out A10 c10)
            clear e10
            subst e11
            try simp only [Act.put,zq0,zq1,zq2,zq3,zq4,zq5]
            refine wpAnyH_take (i:=6) (v:=?_) rfl (by kernel_rfl) (by kernel_rfl) (by kernel_rfl) (fun _ _ _ h=>h) (Or.inl ⟨by rfl,?_⟩) hS ?_
            rotate_left
            · (intro w hSw;(try dsimp only at hSw);go_simp;(try with_reducible rfl))
            rotate_left
            simp only [Act.put,zq0,zq1,zq2,zq3,zq4,zq5]
            refine wpAnyH_ready (rs:=[7]) (by kernel_rfl) (by simp) ?_
            refine AllReadyH.cons rfl (fun K hK=>?_) AllReadyH.nil
            rw [if_pos (by rfl)]
            have fQ:=Z9.free
            have yQ:=Z9.cell
            go_simp
            clear fQ yQ
            have Z10 : BoxOf _ (w.heap.size + 1) #[.slice A10 (j + 1) c10,.slice none 0 0] 28:=mbox_self Z9 0 (.slice A10 (j + 1) c10)
            have P10:=mbox_else P9 (show w.heap.size ≠ w.heap.size + 1 by omega) 0 (.slice A10 (j + 1) c10)
            have O10:=OwnL.setElse (k:=w.heap.size + 1) (OwnL.cast (nulls_step j).symm O9) (by omega) 0 (.slice A10 (j + 1) c10)
            have t10:=Below.setCell (p:=⟨w.heap.size + 1,0,none⟩) t9 (show w.heap.size ≤ w.heap.size + 1 by omega) (.slice A10 (j + 1) c10)
            refine hK.out _ _ P10 (fun hS'=>?_)
            clear hK K hS hS' Z9 P9 O9 t9
            try simp only [Act.put,zq0,zq1,zq2,zq3,zq4,zq5]
            refine wpAnyH_done (by kernel_rfl) ?_ _
            have HN9 : Hid (base ≤ w9.heap.size):=n9
            have LJ:=HLJ.out
            clear n9 hb3
            go_wp2
            go_roundw
            case rel=>exact ⟨j + 1,_,LJ,by first | exact round_same HWJ | go_num,t10,P10,Z10,O10,(show Hid (base ≤ _) from by show base ≤ _;rw [msize];exact HN9.out)⟩
            case measure=>first | exact round_less HWJ LJ | (have h:=LJ;simp [intOf];omega)
          · rw [if_pos (by rfl)]
            go_simp
            have bb:=Ext.alloc (Below.refl v7.heap.size v7) (.cells #[.slice (some ⟨g7,0,none⟩) 1 1] 30)
            have rd8:=rd_row v7 #[.slice (some ⟨g7,0,none⟩) 1 1] 30
            have F8:=(F7.below bb).mono (fun b hb=>Fresh.next hb bb)
            clear F7
            obtain ⟨g8,hg8⟩ : ∃ z : Nat,z = v7.heap.size:=⟨_,rfl⟩
            rw [← hg8] at rd8
            have P9:=P5.next bb
            have Z9:=Z5.next bb
            have O9:=O5.next bb
            have t9:=Ext.trans t5 bb
            have n9:=Nat.le_trans n5 bb.size
            refine hK.out _ _ P9 (fun hS'=>?_)
            clear P5 Z5 O5 t5 n5 hK K hS
            have P5:=P9
            have Z5:=Z9
            have O5:=O9
            have t5:=t9
            have n5:=n9
            have hS:=hS'
            clear hS' P9 Z9 O9 t9 n9
            try simp only [Act.put,zq0,zq1,zq2,zq3,zq4,zq5]
            clear bb
            rw [← hg8]
            clear hg8
            generalize v7.alloc (.cells #[.slice (some ⟨g7,0,none⟩) 1 1] 30) = v8 at *
            refine wpAnyH_ready (rs:=[1]) (by kernel_rfl) (by simp) ?_
            refine AllReadyH.cons rfl (fun K hK=>?_) AllReadyH.nil
            rw [if_pos (by rfl)]
            have yQ:=Z5.cell
            go_simp
            refine hK.out _ _ P5 (fun hS'=>?_)
            clear yQ hK K hS
            have hS:=hS'
            clear hS'
            try simp only [Act.put,zq0,zq1,zq2,zq3,zq4,zq5]
            refine wpAnyH_ready (rs:=[5]) (by kernel_rfl) (by simp) ?_
            refine AllReadyH.cons rfl (fun K hK=>?_) AllReadyH.nil
            rw [if_pos (by rfl)]
            refine wp_push (.tmp 18) (.tmp 21) 25 rfl base 30 il _ 24 (.sl (.sl .byte)) Try.underlying25 hil hl0 hl1 hl2 rfl (by decide) v (nulls j) rfl O5 (some ⟨g8,0,none⟩) 1 _ rfl rd8 _ F8 HBY.out.1 HBY.out.2 n5 ?_
            intro u9 w9 O9 gr9 k9
            have hb3:=HBS.out
            have P9:=P5.grown gr9 (fun e=>by have:=k9 _ e;omega)
            have Z9:=Z5.grown gr9 (fun e=>by have:=k9 _ e;omega)
            have t9:=Below.grown t5 gr9 t5.size (fun r e=>by have:=k9 r e;omega)
            have n9:=Nat.le_trans n5 gr9.size
            refine hK.out _ _ P9 (fun hS'=>?_)
            clear P5 Z5 O5 t5 n5 k9 gr9 F8 rd8 hK K hS
            have hS:=hS'
            clear hS'
            obtain ⟨A10,c10,e10⟩:=OwnL.slice O9
            have e11:=e10.trans (HTL.out A10 c10)
            clear e10
            subst e11
            try simp only [Act.put,zq0,zq1,zq2,zq3,zq4,zq5]
            refine wpAnyH_take (i:=6) (v:=?_) rfl (by kernel_rfl) (by kernel_rfl) (by kernel_rfl) (fun _ _ _ h=>h) (Or.inl ⟨by rfl,?_⟩) hS ?_
            rotate_left
            · (intro w hSw;(try dsimp only at hSw);go_simp;(try with_reducible rfl))
            rotate_left
            simp only [Act.put,zq0,zq1,zq2,zq3,zq4,zq5]
            refine wpAnyH_ready (rs:=[7]) (by kernel_rfl) (by simp) ?_
            refine AllReadyH.cons rfl (fun K hK=>?_) AllReadyH.nil
            rw [if_pos (by rfl)]
            have fQ:=Z9.free
            have yQ:=Z9.cell
            go_simp
            clear fQ yQ
            have Z10 : BoxOf _ (w.heap.size + 1) #[.slice A10 (j + 1) c10,.slice none 0 0] 28:=mbox_self Z9 0 (.slice A10 (j + 1) c10)
            have P10:=mbox_else P9 (show w.heap.size ≠ w.heap.size + 1 by omega) 0 (.slice A10 (j + 1) c10)
            have O10:=OwnL.setElse (k:=w.heap.size + 1) (OwnL.cast (nulls_step j).symm O9) (by omega) 0 (.slice A10 (j + 1) c10)
            have t10:=Below.setCell (p:=⟨w.heap.size + 1,0,none⟩) t9 (show w.heap.size ≤ w.heap.size + 1 by omega) (.slice A10 (j + 1) c10)
            refine hK.out _ _ P10 (fun hS'=>?_)
            clear hK K hS hS' Z9 P9 O9 t9
            try simp only [Act.put,zq0,zq1,zq2,zq3,zq4,zq5]
            refine wpAnyH_done (by kernel_rfl) ?_ _
            have HN9 : Hid (base ≤ w9.heap.size):=n9
            have LJ:=HLJ.out
            clear n9 hb3
            go_wp2
            go_roundw
            case rel=>exact ⟨j + 1,_,LJ,by first | exact round_same HWJ | go_num,t10,P10,Z10,O10,(show Hid (base ≤ _) from by show base ≤ _;rw [msize];exact HN9.out)⟩
            case measure=>first | exact round_less HWJ LJ | (have h:=LJ;simp [intOf];omega)
    · have hje : j = N:=by omega
      obtain ⟨Ag,cg,rfl⟩:=OwnL.slice O4
      have Rg:=OwnL.rdin O4 (show (nulls j).length * 24 ≤ 140737488355328 by rw [nulls_len];omega)
      have HRG:=Lib.hid Rg
      have HJE:=Lib.hid hje
      have hb3:=HBS.out
      clear Rg O4 hje
      have z3:=Z4.cell
      have f3:=Z4.free
      go_wp2
      have B5 : BoxOf _ (w.heap.size + 1) #[.slice Ag (nulls j).length cg,.slice none 0 0] 28:=mbox_self (mbox_self Z4 0 (.slice Ag (nulls j).length cg)) 1 (.slice none 0 0)
      have T5:=Below.setCell (p:=⟨w.heap.size + 1,1,none⟩) (Below.setCell (p:=⟨w.heap.size + 1,0,none⟩) t3 (show w.heap.size ≤ w.heap.size + 1 by omega) (.slice Ag (nulls j).length cg)) (show w.heap.size ≤ w.heap.size + 1 by omega) (.slice none 0 0)
      have R5:=(HRG.out.setElse (k:=w.heap.size + 1) (fun b hb=>by have:=hb.1;omega) 0 (.slice Ag (nulls j).length cg)).setElse (k:=w.heap.size + 1) (fun b hb=>by have:=hb.1;omega) 1 (.slice none 0 0)
      have R6:=R5.mono (S':=NewB w.heap.size ((wr.setCell ⟨w.heap.size + 1,0,none⟩ (.slice Ag (nulls j).length cg)).setCell ⟨w.heap.size + 1,1,none⟩ (.slice none 0 0))) (fun b hb=>⟨by have:=hb.1;omega,by simp only [msize];exact hb.2.1,(hb.2.2.set _ _).set _ _⟩)
      exact bodyPost_ret (v:=.tuple #[.agg #[.slice Ag (nulls j).length cg,.slice none 0 0],.int .i64 0]) (Eq.trans (results_row2 (P:=Try.prog) (fn:=Try.f29) (p:=2) (u:=3) (ty:=28) rfl _ _ (w.heap.size + 1) 28 #[.slice Ag (nulls j).length cg,.slice none 0 0] (0,0) _ rfl B5 Try.underlying28 rfl (by kernel_rfl)) rfl) rfl ⟨⟨0,nulls j,Ag,cg,rfl,.inr ⟨HX.out,rfl,by rw [HNN.out,HJE.out]⟩,R6⟩,T5⟩
 · have HB:=Lib.hid (blocks_bad x hx)
   have HX:=Lib.hid hx
   clear hx
   obtain ⟨id,m,c,r,l,h⟩:=x
   unfold Cfg.val at *
   dsimp only at *
   have C0:=BoxOf.alloc (BoxOf.new w #[.int .u32 (id : Int),.int .i64 m,.int .i64 c,.int .i64 r,.int .i64 l,.int .i64 h] 24) (.cells #[.slice none 0 0,.slice none 0 0] 28)
   have Z0:=BoxOf.new' (w.alloc (.cells #[.int .u32 (id : Int),.int .i64 m,.int .i64 c,.int .i64 r,.int .i64 l,.int .i64 h] 24)) (w.heap.size + 1) #[.slice none 0 0,.slice none 0 0] 28 (by simp)
   have t0:=Ext.alloc (Ext.alloc (Below.refl w.heap.size w) (.cells #[.int .u32 (id : Int),.int .i64 m,.int .i64 c,.int .i64 r,.int .i64 l,.int .i64 h] 24)) (.cells #[.slice none 0 0,.slice none 0 0] 28)
   go_enter Try.func29,Try.ntmps29
   go_upto_region 1 with fail
   generalize (w.alloc (.cells #[.int .u32 (id : Int),.int .i64 m,.int .i64 c,.int .i64 r,.int .i64 l,.int .i64 h] 24)).alloc (.cells #[.slice none 0 0,.slice none 0 0] 28) = W at *
   have x0:=C0.cell
   go_wp2_with fail
   refine (HB.out _).mono ?_
   rintro e w1 ⟨rfl,b1⟩
   have Z1:=Z0.next b1
   have t1:=Ext.trans t0 b1
   have f1:=Z1.free
   have z1:=Z1.cell
   clear x0 C0 Z0 t0 b1
   go_wp2
   have B5 : BoxOf _ (w.heap.size + 1) #[.slice none 0 0,.slice none 0 0] 28:=mbox_self (mbox_self Z1 0 (.slice none 0 0)) 1 (.slice none 0 0)
   have T5:=Below.setCell (p:=⟨w.heap.size + 1,1,none⟩) (Below.setCell (p:=⟨w.heap.size + 1,0,none⟩) t1 (show w.heap.size ≤ w.heap.size + 1 by omega) (.slice none 0 0)) (show w.heap.size ≤ w.heap.size + 1 by omega) (.slice none 0 0)
   exact bodyPost_ret (v:=.tuple #[.agg #[.slice none 0 0,.slice none 0 0],.int .i64 8]) (Eq.trans (results_row2 (P:=Try.prog) (fn:=Try.f29) (p:=2) (u:=3) (ty:=28) rfl _ _ (w.heap.size + 1) 28 #[.slice none 0 0,.slice none 0 0] (0,0) _ rfl B5 Try.underlying28 rfl (by kernel_rfl)) rfl) rfl ⟨⟨8,[],none,0,rfl,.inl ⟨HX.out,rfl,rfl⟩,rdin_nil3 _ _⟩,T5⟩
end Go.Proofs.Ytclbihcggjjgaaa
namespace Go.Proofs.Ytclbihcggjjgaaa
open Go Go.RowKit
set_option linter.unusedSimpArgs false
set_option linter.unusedVariables false
def numB (n : Int) (g : GoTy.T) : Bool:=decide (n ≤ nuOf g)
theorem begin1_any (g : GoTy.T) (Ab : Option Addr) (cg : Nat) (Am : Option Addr) (lm cm : Nat) (number : Int) (gn : Nat) (w : World) (B1 : BoxOf w gn #[.int .i64 number] 3) :
 Calls Try.prog 61 #[.agg #[.int .i64 (nuOf g),.int .u8 ((kiOf g).toNat : Int),.int .i64 (atOf g),.int .i64 (manyOf g),.slice Ab (datOf g).length cg,.slice Am lm cm],.pointer (some ⟨gn,0,none⟩)] w fun e w'=>e = .returned (.bool (numB number g)) ∧ Below w.heap.size w w':=by
 have P0:=BoxOf.new w #[.int .i64 (nuOf g),.int .u8 ((kiOf g).toNat : Int),.int .i64 (atOf g),.int .i64 (manyOf g),.slice Ab (datOf g).length cg,.slice Am lm cm] 64
 have t0:=Ext.alloc (Below.refl w.heap.size w) (.cells #[.int .i64 (nuOf g),.int .u8 ((kiOf g).toNat : Int),.int .i64 (atOf g),.int .i64 (manyOf g),.slice Ab (datOf g).length cg,.slice Am lm cm] 64)
 have C1:=B1.alloc (.cells #[.int .i64 (nuOf g),.int .u8 ((kiOf g).toNat : Int),.int .i64 (atOf g),.int .i64 (manyOf g),.slice Ab (datOf g).length cg,.slice Am lm cm] 64)
 unfold numB
 clear B1
 go_enter Try.func61,Try.ntmps61
 go_upto_region 1 with fail
 generalize w.alloc (.cells #[.int .i64 (nuOf g),.int .u8 ((kiOf g).toNat : Int),.int .i64 (atOf g),.int .i64 (manyOf g),.slice Ab (datOf g).length cg,.slice Am lm cm] 64) = W at *
 have x0:=P0.cell
 have y1:=C1.cell
 go_wp2
 go_ret
 exact ⟨rfl,t0⟩
set_option maxRecDepth 100000 in
set_option maxHeartbeats 2000000 in
theorem idxg_begin (S : Nat → Prop) (gs : List GoTy.T) (B : Option Addr) (d : Nat) (number : Int) (gn : Nat) (w : World) (hg : RdIn w S (.sl GoTy) gs [.slice B gs.length d]) (B1 : BoxOf w gn #[.int .i64 number] 3) :
 Calls Try.prog 56 #[.slice B gs.length d,.func (.func 61) #[] #[.pointer (some ⟨gn,0,none⟩)]] w fun e w'=>AtIs (SomeIs (numB number) gs) e ∧ Below w.heap.size w w':=by
 have HG:=Lib.hid hg
 have HGM:=Lib.hid (go_max hg)
 have HLE : Hid (∀ w',Below w.heap.size w w' → ∀ (g : GoTy.T) (Ab : Option Addr) (cg : Nat) (Am : Option Addr) (lm cm : Nat),Calls Try.prog 61 #[.agg #[.int .i64 (nuOf g),.int .u8 ((kiOf g).toNat : Int),.int .i64 (atOf g),.int .i64 (manyOf g),.slice Ab (datOf g).length cg,.slice Am lm cm],.pointer (some ⟨gn,0,none⟩)] w' fun e w''=>e = .returned (.bool (numB number g)) ∧ Below w'.heap.size w' w''):=fun w' bb g Ab cg Am lm cm=>begin1_any g Ab cg Am lm cm number gn w' (B1.next bb)
 clear hg
 go_enter Try.func56,Try.ntmps56
 go_upto_region 1 with fail
 obtain ⟨W,hW⟩ : ∃ z : World,z = w:=⟨_,rfl⟩
 have b0 : Below W.heap.size W w:=by rw [hW];exact Below.refl _ _
 have HWW:=Lib.hid hW
 rw [← hW] at HG
 clear hW
 go_wp2
 go_loopw [5,8] (fun v i wr=>∃ (j : Nat),j ≤ gs.length ∧ i = .int .i64 j ∧ Below W.heap.size W wr ∧ Hid (∀ i,i < j → NotAt (numB number) gs i)) (fun _ i _=>gs.length - (intOf i).toNat)
 case atStart=>exact ⟨0,by omega,rfl,b0,fun i h=>absurd h (Nat.not_lt_zero _)⟩
 case round=>
  obtain ⟨j,hj,rfl,b1,HA⟩:=hrel
  clear b0
  have bw : Below w.heap.size w wr:=by have:=HWW.out;subst this;exact b1
  by_cases hlt : j < gs.length
  · obtain ⟨b,off,Ab,cg,Am,cm,rfl,q0,q1,q2,q3,q4,q5,i0,i1,i2,rb,rm⟩:=go_at (HG.out.below b1) hlt
    have HSK : Hid (NotAt (numB number) gs j ↔ (numB number) gs[j] = false):=⟨fun h=>h hlt,fun h _=>h⟩
    have HSY : Hid ((numB number) gs[j] = true → SomeIs (numB number) gs):=fun h=>⟨j,hlt,h⟩
    skip
    generalize gs[j] = g at *
    have HWJ:=next_wrap HGM.out hlt
    have HLJ:=Lib.hid hlt
    have HRB:=Lib.hid rb
    clear rb rm i0 i1 i2
    rcases Bool.eq_false_or_eq_true ((numB number) g) with e1 | e1
    · have HF:=Lib.hid (HSY.out e1)
      skip
      go_wp2_with (go_at_call 61;refine (HLE.out _ bw _ _ _ _ _ _).mono ?_;rintro e w3 ⟨rfl,b3⟩)
      go_ret
      exact ⟨AtIs.at HF.out,Ext.trans bw b3⟩
    · have HA' : Hid (∀ i,i < j + 1 → NotAt (numB number) gs i):=by
       intro i hi
       by_cases h : i = j
       · subst h
         exact HSK.out.2 e1
       · exact HA.out i (by omega)
      skip
      go_wp2_with (go_at_call 61;refine (HLE.out _ bw _ _ _ _ _ _).mono ?_;rintro e w3 ⟨rfl,b3⟩)
      have b5:=Ext.trans b1 b3
      go_roundw
      case rel=>exact ⟨j + 1,HLJ.out,by first | exact round_same HWJ | go_num,b5,HA'⟩
      case measure=>first | exact round_less HWJ HLJ.out | (have h:=HLJ.out;simp [intOf];omega)
  · have HN:=Lib.hid (SomeIs.not HA.out hlt)
    go_wp2
    go_ret
    exact ⟨AtIs.not HN.out,bw⟩
theorem hasg_begin (S : Nat → Prop) (gs : List GoTy.T) (B : Option Addr) (d : Nat) (number : Int) (gn : Nat) (w : World) (hg : RdIn w S (.sl GoTy) gs [.slice B gs.length d]) (B1 : BoxOf w gn #[.int .i64 number] 3) :
 Calls Try.prog 60 #[.slice B gs.length d,.func (.func 61) #[] #[.pointer (some ⟨gn,0,none⟩)]] w fun e w'=>YesNo (SomeIs (numB number) gs) e ∧ Below w.heap.size w w':=by
 have HC:=Lib.hid (idxg_begin S gs B d number gn w hg B1)
 clear hg B1
 go_enter Try.func60,Try.ntmps60
 go_wp2_with fail
 refine HC.out.mono ?_
 rintro e w1 ⟨⟨n,rfl,hn⟩,b1⟩
 have HN:=Lib.hid hn
 clear hn
 go_wp2
 go_ret
 exact ⟨YesNo.of (by rw [decide_eq_true_iff];exact HN.out),b1⟩
def lastOf (ys : List (List (List UInt8))) : List Int:=ys.map fun l=>(l.length : Int) - 1
def mkOf (ki : UInt8) (ys : List (List (List UInt8))) : List Int:=if ki = 4 then lastOf ys else []
def newGo (number : Int) (ki : UInt8) (a y : Int) (bs : List UInt8) (ys : List (List (List UInt8))) : GoTy.T:=(number,(ki,a,y,bs,()),mkOf ki ys,())
def BegRel (x : Cfg) (ys : List (List (List UInt8))) (gs : List GoTy.T) (number : Int) (ki : UInt8) (a y : Int) (bs : List UInt8) (v : Int) (zs : List (List (List UInt8))) (hs : List GoTy.T) : Prop:=
 (¬ PlainOk x ys gs ∧ v = 8 ∧ zs = [] ∧ hs = []) ∨
 (PlainOk x ys gs ∧ ¬ askCode x (ki.toNat : Int) a y bs.length = 0 ∧ v = askCode x (ki.toNat : Int) a y bs.length ∧ zs = [] ∧ hs = []) ∨
 (PlainOk x ys gs ∧ askCode x (ki.toNat : Int) a y bs.length = 0 ∧ ¬ (1 ≤ number ∧ ¬ SomeIs (numB number) gs) ∧ v = 2 ∧ zs = [] ∧ hs = []) ∨
 (PlainOk x ys gs ∧ askCode x (ki.toNat : Int) a y bs.length = 0 ∧ (1 ≤ number ∧ ¬ SomeIs (numB number) gs) ∧ gs.length = 8 ∧ v = 9 ∧ zs = [] ∧ hs = []) ∨
 (PlainOk x ys gs ∧ askCode x (ki.toNat : Int) a y bs.length = 0 ∧ (1 ≤ number ∧ ¬ SomeIs (numB number) gs) ∧ ¬ gs.length = 8 ∧ v = 0 ∧ zs = ys ∧ hs = gs ++ [newGo number ki a y bs ys])
theorem BegRel.one {x : Cfg} {ys : List (List (List UInt8))} {gs : List GoTy.T} {number : Int} {ki : UInt8} {a y : Int} {bs : List UInt8} {v v' : Int} {zs zs' : List (List (List UInt8))} {hs hs' : List GoTy.T} (h : BegRel x ys gs number ki a y bs v zs hs) (h' : BegRel x ys gs number ki a y bs v' zs' hs') : v = v' ∧ zs = zs' ∧ hs = hs':=by
 rcases h with ⟨h1,rfl,rfl,rfl⟩ | ⟨h1,h2,rfl,rfl,rfl⟩ | ⟨h1,h2,h3,rfl,rfl,rfl⟩ | ⟨h1,h2,h3,h4,rfl,rfl,rfl⟩ | ⟨h1,h2,h3,h4,rfl,rfl,rfl⟩ <;> rcases h' with ⟨k1,rfl,rfl,rfl⟩ | ⟨k1,k2,rfl,rfl,rfl⟩ | ⟨k1,k2,k3,rfl,rfl,rfl⟩ | ⟨k1,k2,k3,k4,rfl,rfl,rfl⟩ | ⟨k1,k2,k3,k4,rfl,rfl,rfl⟩ <;>
  first | exact ⟨rfl,rfl,rfl⟩ | exact absurd h1 k1 | exact absurd k1 h1 | exact absurd h2 k2 | exact absurd k2 h2 | exact absurd h3 k3 | exact absurd k3 h3 | exact absurd h4 k4 | exact absurd k4 h4
def BegIs (base : Nat) (x : Cfg) (ys : List (List (List UInt8))) (gs : List GoTy.T) (number : Int) (ki : UInt8) (a y : Int) (bs : List UInt8) (e : Ending) (w : World) : Prop:=
 ∃ (v : Int) (zs : List (List (List UInt8))) (hs : List GoTy.T) (A' : Option Addr) (c' : Nat) (B' : Option Addr) (d' : Nat),e = .returned (.tuple #[.agg #[.slice A' zs.length c',.slice B' hs.length d'],.int .i64 v]) ∧ BegRel x ys gs number ki a y bs v zs hs ∧ RdIn w (NewB base w) (.sl (.sl (.sl .byte))) zs [.slice A' zs.length c'] ∧ RdIn w (NewB base w) (.sl GoTy) hs [.slice B' hs.length d']
theorem rdin_nilg (w : World) (S : Nat → Prop) : RdIn w S (.sl GoTy) [] [.slice none 0 0]:=rdin_sl.2 ⟨none,0,rfl,by simp,by simp [maxLen],by simp,.inl rfl⟩
theorem BegIs.err {base : Nat} {x : Cfg} {ys : List (List (List UInt8))} {gs : List GoTy.T} {number : Int} {ki : UInt8} {a y : Int} {bs : List UInt8} {w : World} {v : Int} (h : BegRel x ys gs number ki a y bs v [] []) : BegIs base x ys gs number ki a y bs (.returned (.tuple #[.agg #[.slice none 0 0,.slice none 0 0],.int .i64 v])) w:=
 ⟨v,[],[],none,0,none,0,rfl,h,rdin_nil3 _ _,rdin_nilg _ _⟩
theorem MarksO.of_own {w : World} {base : Nat} {tid : TypeId} {v : Value} {ms : List Int} (h : w.ownsRow base tid 1 v ms.length (ms.map fun x=>Value.int .i64 x)) : MarksO w (Iv base w.heap.size) tid v ms:=by
 rcases h.2 with ⟨rfl,h0⟩ | ⟨g,cap,cur,rfl,hg,hh,h5,h6,h7,h8⟩
 · exact .inl ⟨List.eq_nil_of_length_eq_zero h0,none,0,rfl,by unfold maxLen;omega⟩
 · exact .inr ⟨g,cap,cur,rfl,⟨hg,(Array.getElem?_eq_some_iff.1 hh).1⟩,hh,h5,h6,by rw [h7,Nat.mul_one],by rw [Nat.mul_one] at h8;exact h8⟩
theorem wpList_pushE {P : Program} {w : World} {α : Type} {n : Nat} {EP : ElemP α n} {ops : Array Oper} {rest : List Oper} {o : Oper} {a : Act} {Q : Exit → Act → World → Prop} (hgd : o.guard = none) (s x : Operand) (t : TypeId)
 (ho : o.op = .call { callee:=.builtin .append,args:=#[s,x],argTypes:=#[t,t] })
 (base : Nat) (tid : TypeId) (i : TypeInfo) (z : Value) (bytes : Nat) (ht : P.underlying t = some (.slice tid)) (hi : P.info? tid = some i) (hz : i.zero = some z)
 (hsize : i.size = n) (hby : i.bytes = bytes) (hzs : z.cells.size = n) (hsz : 0 < n)
 (v : Value) (xs : List α) (F T : Nat → Prop) (hs : a.eval s = v) (hown : OwnE EP w F base tid v xs) (hF : ∀ b,F b → b < w.heap.size)
 (A : Option Addr) (c : Nat) (news : List Value) (hx : a.eval x = .slice A 1 c) (hr : Rd w A news) (y : α) (hy : EP.E w T y news) (hT : ∀ b,T b → ¬ F b ∧ b < w.heap.size)
 (h63 : xs.length + 1 ≤ maxLen) (hbytes : (xs.length + 1) * bytes ≤ 140737488355328) (hbase : base ≤ w.heap.size)
 (h : ∀ v' w',OwnE EP w' (fun b=>F b ∨ T b ∨ v'.ownBlock = some b) base tid v' (xs ++ [y]) → w.grownBy w' v.ownBlock → (∀ r,v.ownBlock = some r → base ≤ r) → wpList P ops Q rest (a.put o.dst v') w') : wpList P ops Q (o :: rest) a w:=
 wpList_plain hgd fun _ hK=>wp_pushE s x t ho base tid i z bytes ht hi hz hsize hby hzs hsz v xs F T hs hown hF A c news hx hr y hy hT h63 hbytes hbase fun v' w' h2 h3 h4=>hK _ _ (h v' w' h2 h3 h4)
theorem own_form {w : World} {base : Nat} {e : TypeId} {size : Nat} {v : Value} {n : Nat} {xs : List Value} (h : w.ownsRow base e size v n xs) : ∃ A c,v = .slice A n c:=by
 rcases h.2 with ⟨rfl,h0⟩ | ⟨g,cap,cur,rfl,_⟩
 · exact ⟨none,0,by rw [h0]⟩
 · exact ⟨_,_,rfl⟩
theorem OwnE.box_ne {α : Type} {n : Nat} {P : ElemP α n} {w : World} {F : Nat → Prop} {base g : Nat} {tid t : TypeId} {v : Value} {xs : List α} {cs : Array Value} (h : OwnE P w F base tid v xs) (hb : BoxOf w g cs t) (ht : t ≠ tid) : v.ownBlock ≠ some g:=by
 obtain ⟨ess,_,ho⟩:=h.own
 rcases ho.2 with ⟨rfl,_⟩ | ⟨g',cap,cur,rfl,_,hh,_⟩
 · intro e;cases e
 · intro e
   have e' : g' = g:=Option.some.inj e
   subst e'
   unfold BoxOf at hb
   rw [hb] at hh
   have h1:=Option.some.inj hh
   injection h1 with _ h2
   exact ht h2
def mkV (ys : List (List (List UInt8))) (j : Nat) : List Value:=((lastOf ys).take j).map fun x=>Value.int .i64 x
theorem lastOf_len (ys : List (List (List UInt8))) : (lastOf ys).length = ys.length:=List.length_map _
theorem mkV_step {ys : List (List (List UInt8))} {j : Nat} (h : j < ys.length) : mkV ys (j + 1) = mkV ys j ++ [.int .i64 (((ys[j]).length : Int) - 1)]:=by
 unfold mkV
 have h' : j < (lastOf ys).length:=by rw [lastOf_len];exact h
 rw [List.take_succ_eq_append_getElem h',List.map_append]
 congr 1
 simp [lastOf]
theorem own_setLo {w : World} {lo : Nat} {e : TypeId} {size : Nat} {v : Value} {n : Nat} {xs : List Value} (h : w.ownsRow (lo + 1) e size v n xs) (i : Nat) (u : Value) : (w.setCell ⟨lo,i,none⟩ u).ownsRow (lo + 1) e size v n xs:=
 own_frame h fun r hr=>Below.heap_setCell _ _ _ _ (show r ≠ lo by have:=own_block h hr;omega)
theorem mkV_all (ys : List (List (List UInt8))) : mkV ys ys.length = (lastOf ys).map fun x=>Value.int .i64 x:=by
 unfold mkV
 rw [List.take_of_length_le (by rw [lastOf_len];omega)]
set_option maxRecDepth 100000 in
set_option maxHeartbeats 4000000 in
theorem sbegin_any (S : Nat → Prop) (x : Cfg) (ys : List (List (List UInt8))) (gs : List GoTy.T) (A : Option Addr) (ca : Nat) (B : Option Addr) (cb : Nat) (number : Int) (hnum : IsInt number) (ki : UInt8) (a y : Int) (D : Option Addr) (dc : Nat) (bs : List UInt8) (w : World) (hy : RdIn w S (.sl (.sl (.sl .byte))) ys [.slice A ys.length ca]) (hg : RdIn w S (.sl GoTy) gs [.slice B gs.length cb]) (hd : RdIn w S (.sl .byte) bs [.slice D bs.length dc]) :
 Calls Try.prog 24 #[x.val,.agg #[.slice A ys.length ca,.slice B gs.length cb],.int .i64 number,.agg #[.int .u8 (ki.toNat : Int),.int .i64 a,.int .i64 y,.slice D bs.length dc]] w fun e w'=>BegIs w.heap.size x ys gs number ki a y bs e w' ∧ Below w.heap.size w w':=by
 obtain ⟨iu,hu,hu0,hu1,hu2⟩:=minfo_u8
 obtain ⟨ii,hii,hi0,hi1,hi2⟩:=minfo_int
 obtain ⟨ig,hig,hg0,hg1,hg2⟩:=minfo_going
 have HPC : Hid (∀ w',Below w.heap.size w w' → Calls Try.prog 18 #[x.val,.agg #[.slice A ys.length ca,.slice B gs.length cb]] w' fun e w''=>OkBad (PlainOk x ys gs) e ∧ Below w'.heap.size w' w''):=fun w' bb=>spcheck_any S x ys gs A ca B cb w' (hy.below bb) (hg.below bb)
 have HSC : Hid (∀ w',Calls Try.prog 47 #[x.val,.agg #[.int .u8 (ki.toNat : Int),.int .i64 a,.int .i64 y,.slice D bs.length dc]] w' fun e w''=>e = .returned (.int .i64 (askCode x (ki.toNat : Int) a y bs.length)) ∧ Below w'.heap.size w' w''):=fun w'=>scheck_all x (ki.toNat : Int) a y D bs.length dc w'
 have HCF : Hid (∀ w',Below w.heap.size w w' → BoxOf w' (w.heap.size + 2) #[.int .i64 number] 3 → Calls Try.prog 60 #[.slice B gs.length cb,.func (.func 61) #[] #[.pointer (some ⟨w.heap.size + 2,0,none⟩)]] w' fun e w''=>YesNo (SomeIs (numB number) gs) e ∧ Below w'.heap.size w' w''):=fun w' bb hB=>hasg_begin S gs B cb number (w.heap.size + 2) w' (hg.below bb) hB
 have HTW : Hid (∀ w',Below w.heap.size w w' → Calls Try.prog 33 #[.agg #[.slice A ys.length ca,.slice B gs.length cb]] w' fun e w''=>TwinIs w'.heap.size ys gs e w'' ∧ Below w'.heap.size w' w''):=fun w' bb=>stwin_any S ys gs A ca B cb w' (hy.below bb) (hg.below bb)
 have HCL : Hid (∀ w',Below w.heap.size w w' → Calls Try.prog 44 #[.slice D bs.length dc] w' fun e w''=>(∃ v,e = .returned v ∧ RdIn w'' (NewB w'.heap.size w'') (.sl .byte) bs [v]) ∧ Below w'.heap.size w' w''):=fun w' bb=>clone_any S bs D dc w' (hd.below bb)
 have HY:=Lib.hid hy
 have HN:=Lib.hid hnum
 have HYM:=Lib.hid (may_max hy)
 have hyz : Hid (ys.length * 24 ≤ 140737488355328):=by
  obtain ⟨_,_,_,_,h1,_⟩:=view3 hy
  exact h1
 clear hy hg hd hnum
 have hmf : ∀ (fn : Fn) (first cap : Array Value) (w : World),(Instr.makeFunc fn first cap).run Try.prog w = .ok (.func fn first cap) w:=fun _ _ _ _=>rfl
 obtain ⟨id,m,c,r,l,h⟩:=x
 unfold Cfg.val at *
 dsimp only at *
 have C0:=BoxOf.alloc (BoxOf.alloc (BoxOf.alloc (BoxOf.alloc (BoxOf.new w #[.int .u32 (id : Int),.int .i64 m,.int .i64 c,.int .i64 r,.int .i64 l,.int .i64 h] 24) (.cells #[.slice A ys.length ca,.slice B gs.length cb] 28)) (.cells #[.int .i64 number] 3)) (.cells #[.int .u8 (ki.toNat : Int),.int .i64 a,.int .i64 y,.slice D bs.length dc] 58)) (.cells #[.slice none 0 0,.slice none 0 0] 28)
 have P0:=BoxOf.alloc (BoxOf.alloc (BoxOf.alloc (BoxOf.new' (w.alloc (.cells #[.int .u32 (id : Int),.int .i64 m,.int .i64 c,.int .i64 r,.int .i64 l,.int .i64 h] 24)) (w.heap.size + 1) #[.slice A ys.length ca,.slice B gs.length cb] 28 (by simp)) (.cells #[.int .i64 number] 3)) (.cells #[.int .u8 (ki.toNat : Int),.int .i64 a,.int .i64 y,.slice D bs.length dc] 58)) (.cells #[.slice none 0 0,.slice none 0 0] 28)
 have N0:=BoxOf.alloc (BoxOf.alloc (BoxOf.new' ((w.alloc (.cells #[.int .u32 (id : Int),.int .i64 m,.int .i64 c,.int .i64 r,.int .i64 l,.int .i64 h] 24)).alloc (.cells #[.slice A ys.length ca,.slice B gs.length cb] 28)) (w.heap.size + 2) #[.int .i64 number] 3 (by simp)) (.cells #[.int .u8 (ki.toNat : Int),.int .i64 a,.int .i64 y,.slice D bs.length dc] 58)) (.cells #[.slice none 0 0,.slice none 0 0] 28)
 have Q0:=BoxOf.alloc (BoxOf.new' (((w.alloc (.cells #[.int .u32 (id : Int),.int .i64 m,.int .i64 c,.int .i64 r,.int .i64 l,.int .i64 h] 24)).alloc (.cells #[.slice A ys.length ca,.slice B gs.length cb] 28)).alloc (.cells #[.int .i64 number] 3)) (w.heap.size + 3) #[.int .u8 (ki.toNat : Int),.int .i64 a,.int .i64 y,.slice D bs.length dc] 58 (by simp)) (.cells #[.slice none 0 0,.slice none 0 0] 28)
 have Z0:=BoxOf.new' ((((w.alloc (.cells #[.int .u32 (id : Int),.int .i64 m,.int .i64 c,.int .i64 r,.int .i64 l,.int .i64 h] 24)).alloc (.cells #[.slice A ys.length ca,.slice B gs.length cb] 28)).alloc (.cells #[.int .i64 number] 3)).alloc (.cells #[.int .u8 (ki.toNat : Int),.int .i64 a,.int .i64 y,.slice D bs.length dc] 58)) (w.heap.size + 4) #[.slice none 0 0,.slice none 0 0] 28 (by simp)
 have t0:=Ext.alloc (Ext.alloc (Ext.alloc (Ext.alloc (Ext.alloc (Below.refl w.heap.size w) (.cells #[.int .u32 (id : Int),.int .i64 m,.int .i64 c,.int .i64 r,.int .i64 l,.int .i64 h] 24)) (.cells #[.slice A ys.length ca,.slice B gs.length cb] 28)) (.cells #[.int .i64 number] 3)) (.cells #[.int .u8 (ki.toNat : Int),.int .i64 a,.int .i64 y,.slice D bs.length dc] 58)) (.cells #[.slice none 0 0,.slice none 0 0] 28)
 go_enter Try.func24,Try.ntmps24
 go_upto_region 1 with fail
 generalize ((((w.alloc (.cells #[.int .u32 (id : Int),.int .i64 m,.int .i64 c,.int .i64 r,.int .i64 l,.int .i64 h] 24)).alloc (.cells #[.slice A ys.length ca,.slice B gs.length cb] 28)).alloc (.cells #[.int .i64 number] 3)).alloc (.cells #[.int .u8 (ki.toNat : Int),.int .i64 a,.int .i64 y,.slice D bs.length dc] 58)).alloc (.cells #[.slice none 0 0,.slice none 0 0] 28) = W at *
 have c0:=C0.cell
 have p0:=P0.cell
 go_wp2_with fail
 refine (HPC.out _ t0).mono ?_
 rintro e w1 ⟨h1,b1⟩
 have C1:=C0.next b1
 have c1:=C1.cell
 have P1:=P0.next b1
 have N1:=N0.next b1
 have Q1:=Q0.next b1
 have Z1:=Z0.next b1
 have t1:=Ext.trans t0 b1
 have p1:=P1.cell
 have n1:=N1.cell
 have q1:=Q1.cell
 have z1:=Z1.cell
 have f1:=Z1.free
 clear c0 p0 C0 P0 N0 Q0 Z0 t0 b1
 rcases h1 with ⟨hok,rfl⟩ | ⟨hno,rfl⟩
 · have HOK:=Lib.hid hok
   clear hok
   go_wp2_with fail
   refine (HSC.out _).mono ?_
   rintro e w2 ⟨rfl,b2⟩
   have P2:=P1.next b2
   have N2:=N1.next b2
   have Q2:=Q1.next b2
   have Z2:=Z1.next b2
   have t2:=Ext.trans t1 b2
   have p2:=P2.cell
   have n2:=N2.cell
   have q2:=Q2.cell
   have z2:=Z2.cell
   have f2:=Z2.free
   clear c1 C1 p1 n1 q1 z1 f1 P1 N1 Q1 Z1 t1 b2
   by_cases hc : askCode ⟨id,m,c,r,l,h⟩ (ki.toNat : Int) a y bs.length = 0
   · have HC0:=Lib.hid hc
     rw [hc]
     clear hc
     rcases Bool.eq_false_or_eq_true (decide (number < 1)) with e1 | e1
     · have HLT : Hid (number < 1):=by show _ < _;exact of_decide_eq_true e1
       go_wp2
       have f9:=(Z2).free
       have B5 : BoxOf _ (w.heap.size + 4) #[.slice none 0 0,.slice none 0 0] 28:=mbox_self (mbox_self Z2 0 (.slice none 0 0)) 1 (.slice none 0 0)
       have T5:=Below.setCell (p:=⟨w.heap.size + 4,1,none⟩) (Below.setCell (p:=⟨w.heap.size + 4,0,none⟩) t2 (show w.heap.size ≤ w.heap.size + 4 by omega) (.slice none 0 0)) (show w.heap.size ≤ w.heap.size + 4 by omega) (.slice none 0 0)
       exact bodyPost_ret (v:=.tuple #[.agg #[.slice none 0 0,.slice none 0 0],.int .i64 (2)]) (Eq.trans (results_row2 (P:=Try.prog) (fn:=Try.f24) (p:=8) (u:=9) (ty:=28) rfl _ _ (w.heap.size + 4) 28 #[.slice none 0 0,.slice none 0 0] (0,0) _ rfl B5 Try.underlying28 rfl (by kernel_rfl)) rfl) rfl ⟨BegIs.err (.inr (.inr (.inl ⟨HOK.out,HC0.out,fun h=>by have:=HLT.out;omega,rfl,rfl,rfl⟩))),T5⟩
     · have HGE : Hid (1 ≤ number):=by have:=of_decide_eq_false e1;show _ ≤ _;omega
       go_wp2_with fail
       refine (HCF.out _ t2 N2).mono ?_
       rintro e w3 ⟨⟨bv,rfl,hbv⟩,b3⟩
       have P3:=P2.next b3
       have N3:=N2.next b3
       have Q3:=Q2.next b3
       have Z3:=Z2.next b3
       have t3:=Ext.trans t2 b3
       have p3:=P3.cell
       have n3:=N3.cell
       have q3:=Q3.cell
       have z3:=Z3.cell
       have f3:=Z3.free
       have HBV:=Lib.hid hbv
       clear hbv p2 n2 q2 z2 f2 P2 N2 Q2 Z2 t2 b3
       cases bv with
       | true=>
         go_wp2
         have f9:=(Z3).free
         have B5 : BoxOf _ (w.heap.size + 4) #[.slice none 0 0,.slice none 0 0] 28:=mbox_self (mbox_self Z3 0 (.slice none 0 0)) 1 (.slice none 0 0)
         have T5:=Below.setCell (p:=⟨w.heap.size + 4,1,none⟩) (Below.setCell (p:=⟨w.heap.size + 4,0,none⟩) t3 (show w.heap.size ≤ w.heap.size + 4 by omega) (.slice none 0 0)) (show w.heap.size ≤ w.heap.size + 4 by omega) (.slice none 0 0)
         exact bodyPost_ret (v:=.tuple #[.agg #[.slice none 0 0,.slice none 0 0],.int .i64 (2)]) (Eq.trans (results_row2 (P:=Try.prog) (fn:=Try.f24) (p:=8) (u:=9) (ty:=28) rfl _ _ (w.heap.size + 4) 28 #[.slice none 0 0,.slice none 0 0] (0,0) _ rfl B5 Try.underlying28 rfl (by kernel_rfl)) rfl) rfl ⟨BegIs.err (.inr (.inr (.inl ⟨HOK.out,HC0.out,fun h=>h.2 (HBV.out.1 (by first | rfl | trivial)),rfl,rfl,rfl⟩))),T5⟩
       | false=>
         have HNO : Hid (1 ≤ number ∧ ¬ SomeIs (numB number) gs):=⟨HGE.out,fun h=>by have:=HBV.out.2 h;cases this⟩
         rcases Bool.eq_false_or_eq_true (decide ((gs.length : Int) = 8)) with e2 | e2
         · have HL : Hid (gs.length = 8):=by have:=of_decide_eq_true e2;show _ = _;omega
           have e2' : ((gs.length : Int) == 8) = true:=by have:=of_decide_eq_true e2;simp [this]
           go_wp2
           have f9:=(Z3).free
           have B5 : BoxOf _ (w.heap.size + 4) #[.slice none 0 0,.slice none 0 0] 28:=mbox_self (mbox_self Z3 0 (.slice none 0 0)) 1 (.slice none 0 0)
           have T5:=Below.setCell (p:=⟨w.heap.size + 4,1,none⟩) (Below.setCell (p:=⟨w.heap.size + 4,0,none⟩) t3 (show w.heap.size ≤ w.heap.size + 4 by omega) (.slice none 0 0)) (show w.heap.size ≤ w.heap.size + 4 by omega) (.slice none 0 0)
           exact bodyPost_ret (v:=.tuple #[.agg #[.slice none 0 0,.slice none 0 0],.int .i64 (9)]) (Eq.trans (results_row2 (P:=Try.prog) (fn:=Try.f24) (p:=8) (u:=9) (ty:=28) rfl _ _ (w.heap.size + 4) 28 #[.slice none 0 0,.slice none 0 0] (0,0) _ rfl B5 Try.underlying28 rfl (by kernel_rfl)) rfl) rfl ⟨BegIs.err (.inr (.inr (.inr (.inl ⟨HOK.out,HC0.out,HNO.out,HL.out,rfl,rfl,rfl⟩)))),T5⟩
         · have HL : Hid (¬ gs.length = 8):=by have:=of_decide_eq_false e2;show ¬ _;omega
           have e2' : ((gs.length : Int) == 8) = false:=by have:=of_decide_eq_false e2;simpa using this
           go_wp2_with fail
           refine (HTW.out _ t3).mono ?_
           rintro e w4 ⟨⟨vy,vg,mm,rfl,hm1,hm2,O4,G4⟩,b4⟩
           obtain ⟨Ay,cy,rfl⟩:=O4.slice
           obtain ⟨Ag,cg,rfl⟩:=G4.slice
           have hw34:=t3.size
           have hz3:=Z3.lt
           have P4:=P3.next b4
           have N4:=N3.next b4
           have Q4:=Q3.next b4
           have Z4:=Z3.next b4
           have t4:=Ext.trans t3 b4
           have p4:=P4.cell
           have n4:=N4.cell
           have q4:=Q4.cell
           have z4:=Z4.cell
           have f4:=Z4.free
           clear p3 n3 q3 z3 f3 P3 N3 Q3 Z3 t3 b4 p4 n4 q4 z4 f4
           have hb1:=Ext.alloc (Below.refl w4.heap.size w4) (.cells #[.slice Ay ys.length cy,.slice Ag gs.length cg] 28)
           have T5:=BoxOf.new w4 #[.slice Ay ys.length cy,.slice Ag gs.length cg] 28
           have N5:=N4.next hb1
           have Q5:=Q4.next hb1
           have P5:=P4.next hb1
           have Z5:=Z4.next hb1
           have t5:=Ext.trans t4 hb1
           have O5:=O4.next (fun b hb=>Nat.lt_of_lt_of_le hb.2 hm2) hb1
           have G5:=G4.next (fun b hb=>hb.2) hb1
           have hgl:=G4.lt
           have hs5:=T5.lt
           obtain ⟨tb,htb⟩ : ∃ z : Nat,z = w4.heap.size:=⟨_,rfl⟩
           obtain ⟨lo3,hlo3⟩ : ∃ z : Nat,z = w3.heap.size:=⟨_,rfl⟩
           have hwt : w.heap.size + 4 < lo3 ∧ lo3 ≤ mm ∧ mm ≤ tb:=by omega
           rw [← htb] at T5 G5 hgl hs5
           rw [← hlo3] at O5
           have HGL:=Lib.hid hgl
           have z4:=Z4.cell
           have f4:=Z4.free
           go_upto_region 12 with fail
           rw [← htb]
           have HWT:=Lib.hid hwt
           have HS5:=Lib.hid hs5
           clear htb hlo3 hb1 O4 G4 Q4 N4 Z4 P4 t4 z4 f4 hgl hm1 hm2 hw34 hz3 hwt hs5 e1 e2 e2'
           generalize w4.alloc (.cells #[.slice Ay ys.length cy,.slice Ag gs.length cg] 28) = W5 at *
           have q5:=Q5.cell
           go_wp2_with fail
           refine (HCL.out _ t5).mono ?_
           rintro e w6 ⟨⟨vb,rfl,r6⟩,b6⟩
           obtain ⟨Dn,dn,rfl⟩:=bytesV r6
           have N6:=N5.next b6
           have Q6:=Q5.next b6
           have P6:=P5.next b6
           have Z6:=Z5.next b6
           have T6:=T5.next b6
           have t6:=Ext.trans t5 b6
           have O6:=O5.next (fun b hb=>by have:=hb.2;have:=HWT.out;have:=HS5.out;omega) b6
           have G6:=G5.next (fun b hb=>by have:=hb.2;have:=HWT.out;have:=HS5.out;omega) b6
           have hs6:=b6.size
           have HS6:=Lib.hid hs6
           have q6:=Q6.cell
           have qf:=Q6.free
           clear q5 N5 Q5 P5 Z5 T5 t5 O5 G5 b6 hs6
           go_upto_region 13 with fail
           have hw8:=HWT.out
           have hs8:=HS5.out
           have N7:=mbox_else N6 (show w.heap.size + 2 ≠ w.heap.size + 3 by omega) 3 (.slice Dn bs.length dn)
           have P7:=mbox_else P6 (show w.heap.size + 1 ≠ w.heap.size + 3 by omega) 3 (.slice Dn bs.length dn)
           have Q7 : BoxOf _ (w.heap.size + 3) #[.int .u8 (ki.toNat : Int),.int .i64 a,.int .i64 y,.slice Dn bs.length dn] 58:=mbox_self Q6 3 (.slice Dn bs.length dn)
           have Z7:=mbox_else Z6 (show w.heap.size + 4 ≠ w.heap.size + 3 by omega) 3 (.slice Dn bs.length dn)
           have T7:=mbox_else T6 (show tb ≠ w.heap.size + 3 by omega) 3 (.slice Dn bs.length dn)
           have O7:=OwnE.setElse (k:=w.heap.size + 3) O6 (fun h=>by have:=h.1;omega) 3 (.slice Dn bs.length dn)
           have G7:=OwnE.setElse (k:=w.heap.size + 3) G6 (fun h=>by have:=h.1;omega) 3 (.slice Dn bs.length dn)
           have t7:=Below.setCell (p:=⟨w.heap.size + 3,3,none⟩) t6 (show w.heap.size ≤ w.heap.size + 3 by omega) (.slice Dn bs.length dn)
           have r7:=(r6.setElse (k:=w.heap.size + 3) (fun b hb=>by have:=hb.1;omega) 3 (.slice Dn bs.length dn)).mono (S':=fun b=>Iv W5.heap.size w6.heap.size b ∧ Live (w6.setCell ⟨w.heap.size + 3,3,none⟩ (.slice Dn bs.length dn)) b) (fun b hb=>⟨⟨hb.1,hb.2.1⟩,hb.2.2.set _ _⟩)
           have hs7 : (w6.setCell ⟨w.heap.size + 3,3,none⟩ (.slice Dn bs.length dn)).heap.size = w6.heap.size:=msize ..
           clear q6 qf N6 Q6 P6 Z6 T6 t6 O6 G6 r6 hw8 hs8
           generalize w6.setCell ⟨w.heap.size + 3,3,none⟩ (.slice Dn bs.length dn) = W7 at *
           have bR:=Ext.alloc (Below.refl W7.heap.size W7) (.cells #[.int .i64 number,.int .u8 (ki.toNat : Int),.int .i64 a,.int .i64 y,.slice Dn bs.length dn,.slice none 0 0] 64)
           have R8:=BoxOf.new W7 #[.int .i64 number,.int .u8 (ki.toNat : Int),.int .i64 a,.int .i64 y,.slice Dn bs.length dn,.slice none 0 0] 64
           have hmz : mm ≤ W7.heap.size ∧ tb ≤ W7.heap.size:=by have:=HWT.out;have:=HS5.out;have:=HS6.out;omega
           have Q8:=Q7.next bR
           have P8:=P7.next bR
           have Z8:=Z7.next bR
           have T8:=T7.next bR
           have O8:=O7.next (fun b hb=>by have:=hb.2;omega) bR
           have G8:=G7.next (fun b hb=>by have:=hb.2;omega) bR
           have t8:=Ext.trans t7 bR
           have r8 : RdIn _ (fun b=>Iv W5.heap.size w6.heap.size b ∧ Live _ b) (.sl .byte) bs [.slice Dn bs.length dn]:=(r7.below bR).mono (fun b hb=>⟨hb.1,hb.2.below bR⟩)
           have n7:=N7.cell
           have q7:=Q7.cell
           obtain ⟨lo2,hlo2⟩ : ∃ z : Nat,z = W7.heap.size:=⟨_,rfl⟩
           obtain ⟨lo5,hlo5⟩ : ∃ z : Nat,z = W5.heap.size:=⟨_,rfl⟩
           have hLO : tb < lo5 ∧ lo5 ≤ lo2:=by have:=HS5.out;have:=HS6.out;omega
           rw [← hs7,← hlo2,← hlo5] at r8
           rw [← hlo2] at R8
           clear hs7
           go_upto_region 14 with fail
           rw [← hlo2]
           have HLO:=Lib.hid hLO
           have HAY : Hid (IsInt a ∧ IsInt y):=by
            obtain ⟨_,_,_,h1,h2,_⟩:=askCode_0 HC0.out
            show _ ∧ _
            unfold IsInt
            omega
           clear hlo2 hlo5 hLO bR hmz n7 q7 N7 Q7 P7 Z7 T7 O7 G7 t7 r7
           generalize W7.alloc (.cells #[.int .i64 number,.int .u8 (ki.toNat : Int),.int .i64 a,.int .i64 y,.slice Dn bs.length dn,.slice none 0 0] 64) = W8 at *
           have q8:=Q8.cell
           rcases Bool.eq_false_or_eq_true ((ki.toNat : Int) == 4) with e4 | e4
           · have hk4 : ki = 4:=by
              have h1 : (ki.toNat : Int) = 4:=by simpa using e4
              exact UInt8.toNat_inj.1 (by show ki.toNat = 4;omega)
             have HMS : Hid (newGo number ki a y bs ys = (number,(ki,a,y,bs,()),lastOf ys,())):=by
              have h1 : mkOf ki ys = lastOf ys:=if_pos hk4
              exact congrArg (fun z : List Int=>(show GoTy.T from (number,(ki,a,y,bs,()),z,()))) h1
             have HMI : Hid ((∀ x ∈ lastOf ys,IsInt x) ∧ (lastOf ys).length * 8 ≤ 140737488355328):=by
              refine ⟨fun x hx=>?_,?_⟩
              · unfold lastOf at hx
                rw [List.mem_map] at hx
                obtain ⟨l,hl,rfl⟩:=hx
                obtain ⟨i,hi,rfl⟩:=List.getElem_of_mem hl
                have h1:=HOK.out.vals i hi
                have h2:=h1.1
                have h3:=h1.2.1
                unfold IsInt
                omega
              · rw [lastOf_len]
                have:=hyz.out
                omega
             have hd4 : decide ((ki.toNat : Int) = 4) = true:=by rw [decide_eq_true_iff];simpa using e4
             clear hk4
             have p8:=P8.cell
             have b80 : Below lo2 W8 W8:=Below.refl _ _
             have own0 : W8.ownsRow (lo2 + 1) 3 1 (.slice none 0 0) 0 (mkV ys 0):=⟨rfl,.inl ⟨rfl,rfl⟩⟩
             have HW8 : Hid (lo2 + 1 ≤ W8.heap.size):=R8.lt
             go_wp2
             clear q8 p8 e4 hd4
             go_loopw [59] (fun i wr=>∃ (j : Nat) (vm : Value),j ≤ ys.length ∧ i = .int .i64 j ∧ Below w.heap.size w wr ∧ Below lo2 W8 wr ∧ BoxOf wr lo2 #[.int .i64 number,.int .u8 (ki.toNat : Int),.int .i64 a,.int .i64 y,.slice Dn bs.length dn,vm] 64 ∧ wr.ownsRow (lo2 + 1) 3 1 vm j (mkV ys j) ∧ Hid (lo2 + 1 ≤ wr.heap.size)) (fun i _=>ys.length - (intOf i).toNat)
             case atStart=>exact ⟨0,.slice none 0 0,by omega,rfl,t8,b80,R8,own0,HW8⟩
             case round=>
              obtain ⟨j,vm,hj,rfl,t9,k9,R9,M9,HN9⟩:=hrel
              clear t8 b80 R8 own0
              by_cases hlt : j < ys.length
              · obtain ⟨b,off,A2,c2,rfl,q2,r2⟩:=may_at (HY.out.below t9) hlt
                have HSTK:=Lib.hid (mkV_step hlt)
                have hzl : (ys[j]).length ≤ 512:=(HOK.out.vals j hlt).2.1
                generalize ys[j] = zs at *
                have HWJ:=next_wrap HYM.out hlt
                have HLJ:=Lib.hid hlt
                have hwz : wrap64 ((zs.length : Int) - 1) = (zs.length : Int) - 1:=IntWalk.wrap64_in _ (by omega)
                have bb:=Ext.alloc (Below.refl wr.heap.size wr) (.cells #[.int .i64 ((zs.length : Int) - 1)] 3)
                have rd:=rd_row wr #[.int .i64 ((zs.length : Int) - 1)] 3
                have M10:=own_next M9 bb
                have R10:=R9.next bb
                have t10:=Ext.trans t9 bb
                have k10:=k9.trans (bb.mono (show lo2 ≤ wr.heap.size by have:=HN9.out;omega))
                have HS10 : Hid (lo2 + 1 ≤ (wr.alloc (.cells #[.int .i64 ((zs.length : Int) - 1)] 3)).heap.size):=Nat.le_trans HN9.out bb.size
                have y9:=R9.cell
                have HBY : Hid (j + 1 ≤ maxLen ∧ (j + 1) * 8 ≤ 140737488355328):=by
                    have h1:=hyz.out
                    have h2:=HLJ.out
                    show _ ∧ _
                    unfold maxLen
                    omega
                obtain ⟨Am,cm,rfl⟩:=own_form M9
                clear bb M9 R9 t9 k9 r2 hzl hj hlt
                go_wp2_with (at_builtin;refine wpList_append_rd _ rfl (.tmp 64) (.tmp 68) 62 rfl (lo2 + 1) 3 ii _ 1 8 Try.underlying62 hii hi0 hi1 hi2 rfl (by decide) _ j (mkV ys j) rfl M10 (some ⟨wr.heap.size,0,none⟩) 1 _ [.int .i64 ((zs.length : Int) - 1)] rfl (by simp) rd (by intro u hu;simp at hu;subst hu;rfl) HBY.out.1 HBY.out.2 HS10.out ?_;intro v7 w7 M7 g7 k7;rw [← HSTK.out] at M7;obtain ⟨A7,c7,rfl⟩:=own_form M7;have hw9:=HWT.out;have hlo:=HLO.out;have R7:=R10.grown g7 (fun e=>by have:=own_block M10 e;omega);have t7:=Below.grown t10 g7 t10.size (fun r e=>by have:=own_block M10 e;omega);have kk7:=Below.grown k10 g7 (by have:=HS10.out;omega) (fun r e=>by have:=own_block M10 e;omega);have HN7:=Lib.hid (Nat.le_trans HS10.out g7.size);have y7:=R7.cell;have f7:=R7.free;clear y9 R10 t10 k10 M10 rd g7 k7 hw9 hlo)
                have hw9:=HWT.out
                have hlo:=HLO.out
                have R8 : BoxOf _ lo2 #[.int .i64 number,.int .u8 (ki.toNat : Int),.int .i64 a,.int .i64 y,.slice Dn bs.length dn,(.slice A7 (j + 1) c7)] 64:=mbox_self R7 5 (.slice A7 (j + 1) c7)
                have M8:=own_setLo M7 5 (.slice A7 (j + 1) c7)
                have t8:=Below.setCell (p:=⟨lo2,5,none⟩) t7 (show w.heap.size ≤ lo2 by omega) (.slice A7 (j + 1) c7)
                have k8:=Below.setCell (p:=⟨lo2,5,none⟩) kk7 (Nat.le_refl _) (.slice A7 (j + 1) c7)
                clear hw9 hlo
                go_roundw
                case rel=>exact ⟨j + 1,_,HLJ.out,by first | exact round_same HWJ | go_num,t8,k8,R8,M8,(show Hid (lo2 + 1 ≤ _) from by show lo2 + 1 ≤ _;rw [msize];exact HN7.out)⟩
                case measure=>first | exact round_less HWJ HLJ.out | (have h:=HLJ.out;simp [intOf];omega)
              · have hje : j = ys.length:=by omega
                have hw9:=HWT.out
                have hlo:=HLO.out
                have T9:=T8.below k9 (show tb < lo2 by omega)
                have Z9:=Z8.below k9 (show w.heap.size + 4 < lo2 by omega)
                have O9:=OwnE.frame O8 (fun b hb=>k9.block b (by have:=hb.2;omega))
                have G9:=OwnE.frame G8 (fun b hb=>k9.block b (by have:=hb.2;omega))
                have r9 : RdIn wr (fun b=>Iv lo5 lo2 b ∧ Live wr b) (.sl .byte) bs [.slice Dn bs.length dn]:=(r8.frame (fun b hb=>k9.block b hb.1.2)).mono fun b hb=>⟨hb.1,by
                    obtain ⟨cs,t,h1⟩:=hb.2
                    exact ⟨cs,t,by rw [k9.block b hb.1.2];exact h1⟩⟩
                have MK : MarksO wr (Iv (lo2 + 1) wr.heap.size) 3 vm (lastOf ys):=MarksO.of_own (by rw [lastOf_len,← mkV_all];rw [hje] at M9;exact M9)
                obtain ⟨Am,cm,rfl⟩:=own_form M9
                have HJE:=Lib.hid hje
                clear hw9 hlo M9 T8 Z8 O8 G8 r8 hje k9
                go_upto_region 20 with fail
                clear hlt hj
                have hF1:=HWT.out
                have hF2:=HLO.out
                have bA:=Ext.alloc (Below.refl wr.heap.size wr) (.cells #[.int .i64 number,.int .u8 (ki.toNat : Int),.int .i64 a,.int .i64 y,.slice Dn bs.length dn,(.slice Am j cm)] 64)
                have TA:=T9.next bA
                have ZA:=Z9.next bA
                have OA:=O9.next (fun b hb=>by have:=hb.2;have:=R9.lt;omega) bA
                have GA:=G9.next (fun b hb=>by have:=hb.2;have:=R9.lt;omega) bA
                have tA:=Ext.trans t9 bA
                have hR2:=R9.lt
                have hA2:=bA.size
                have EA : (goE 3).E (wr.alloc (.cells #[.int .i64 number,.int .u8 (ki.toNat : Int),.int .i64 a,.int .i64 y,.slice Dn bs.length dn,(.slice Am j cm)] 64)) (Iv lo5 (wr.alloc (.cells #[.int .i64 number,.int .u8 (ki.toNat : Int),.int .i64 a,.int .i64 y,.slice Dn bs.length dn,(.slice Am j cm)] 64)).heap.size) (newGo number ki a y bs ys) #[.int .i64 number,.int .u8 (ki.toNat : Int),.int .i64 a,.int .i64 y,.slice Dn bs.length dn,(.slice Am j cm)].toList:=by
                    rw [HMS.out]
                    refine ⟨number,ki,a,y,bs,(lastOf ys),_,_,rfl,rfl,⟨HN.out,HAY.out.1,HAY.out.2⟩,HMI.out.1,HMI.out.2,(r9.below bA).mono (fun b hb=>⟨⟨⟨hb.1.1,by have:=hb.1.2;omega⟩,hb.2.below bA⟩,MK.ne (by have:=hb.1.2;omega)⟩),(MK.frame (fun b hb=>bA.block b hb.2)).mono (fun b hb=>⟨by have:=hb.1;omega,Nat.lt_of_lt_of_le hb.2 hA2⟩)⟩
                have rdA:=rd_row wr #[.int .i64 number,.int .u8 (ki.toNat : Int),.int .i64 a,.int .i64 y,.slice Dn bs.length dn,(.slice Am j cm)] 64
                have HBY : Hid (gs.length + 1 ≤ maxLen ∧ (gs.length + 1) * 80 ≤ 140737488355328):=by
                    have h1:=HOK.out.few
                    show _ ∧ _
                    unfold maxLen
                    omega
                have HTL : Hid (∀ (A : Option Addr) (c : Nat),Value.slice A (gs ++ [newGo number ki a y bs ys]).length c = Value.slice A (gs.length + 1) c):=fun A c=>by
                    rw [List.length_append]
                    rfl
                have yT:=T9.cell
                have yR:=R9.cell
                have hwtb : w.heap.size + 4 < tb:=by omega
                have HEND:=Lib.hid (And.intro hF1 (And.intro hF2 (And.intro hR2 hA2)))
                clear hF1 hF2 hA2 bA T9 Z9 O9 G9 t9 r9 R9
                go_wp2_with (at_builtin;refine wpList_pushE rfl (.tmp 73) (.tmp 75) 26 rfl mm 64 ig _ 80 Try.underlying26 hig hg0 hg1 hg2 rfl (by decide) _ gs (Iv mm tb) (Iv lo5 (wr.alloc (.cells #[.int .i64 number,.int .u8 (ki.toNat : Int),.int .i64 a,.int .i64 y,.slice Dn bs.length dn,(.slice Am j cm)] 64)).heap.size) rfl GA (fun b hb=>by have:=hb.2;have:=HEND.out;omega) (some ⟨wr.heap.size,0,none⟩) 1 _ rfl rdA (newGo number ki a y bs ys) EA (fun b hb=>⟨fun hf=>by have h1:=hf.2;have h2:=hb.1;have:=HEND.out;omega,hb.2⟩) HBY.out.1 HBY.out.2 (by have:=HEND.out;omega) ?_;intro v7 w7 O7 g7 k7;obtain ⟨A10,c10,e10⟩:=O7.slice;have e11:=e10.trans (HTL.out A10 c10);subst e11;have hE:=HEND.out;have TB:=TA.grown g7 (fun e=>absurd (HGL.out _ e) (Nat.lt_irrefl _));have ZB:=ZA.grown g7 (fun e=>by have:=k7 _ e;omega);have tB:=Below.grown tA g7 tA.size (fun r e=>by have:=k7 r e;omega);have OB:=OwnE.frame OA (fun b hb=>g7.block b (by have:=hb.2;omega) (fun e=>by have h1:=k7 _ e.symm;have:=hb.2;omega));have HGB:=Lib.hid O7;have HNE:=Lib.hid (O7.box_ne TB (by decide));have yB:=TB.cell;have fB:=TB.free;have zB:=ZB.cell;have zf:=ZB.free;clear yT yR TA ZA tA OA GA EA rdA g7 k7 O7 e10 hE)
                have hE:=HEND.out
                have B5 : BoxOf _ (w.heap.size + 4) #[.slice Ay ys.length cy,.slice A10 (gs.length + 1) c10] 28:=mbox_self (mbox_self (mbox_else ZB (show w.heap.size + 4 ≠ tb by omega) 1 (.slice A10 (gs.length + 1) c10)) 0 (.slice Ay ys.length cy)) 1 (.slice A10 (gs.length + 1) c10)
                have T5:=Below.setCell (p:=⟨w.heap.size + 4,1,none⟩) (Below.setCell (p:=⟨w.heap.size + 4,0,none⟩) (Below.setCell (p:=⟨tb,1,none⟩) tB (show w.heap.size ≤ tb by omega) (.slice A10 (gs.length + 1) c10)) (show w.heap.size ≤ w.heap.size + 4 by omega) (.slice Ay ys.length cy)) (show w.heap.size ≤ w.heap.size + 4 by omega) (.slice A10 (gs.length + 1) c10)
                have OF:=OwnE.setElse (k:=w.heap.size + 4) (OwnE.setElse (k:=w.heap.size + 4) (OwnE.setElse (k:=tb) OB (fun h=>by have:=h.2;omega) 1 (.slice A10 (gs.length + 1) c10)) (fun h=>by have:=h.1;omega) 0 (.slice Ay ys.length cy)) (fun h=>by have:=h.1;omega) 1 (.slice A10 (gs.length + 1) c10)
                have hn4 : ¬ (fun b=>Iv mm tb b ∨ Iv lo5 (wr.alloc (.cells #[.int .i64 number,.int .u8 (ki.toNat : Int),.int .i64 a,.int .i64 y,.slice Dn bs.length dn,(.slice Am j cm)] 64)).heap.size b ∨ (Value.slice A10 (gs.length + 1) c10).ownBlock = some b) (w.heap.size + 4):=fun h=>by
                    rcases h with h | h | h
                    · have:=h.1;omega
                    · have:=h.1;omega
                    · have:=HGB.out.base_le _ h;omega
                have GF:=OwnE.setElse (k:=w.heap.size + 4) (OwnE.setElse (k:=w.heap.size + 4) (OwnE.setElse (k:=tb) HGB.out (fun h=>by
                    rcases h with h | h | h
                    · have:=h.2;omega
                    · have:=h.1;omega
                    · exact HNE.out h) 1 (.slice A10 (gs.length + 1) c10)) hn4 0 (.slice Ay ys.length cy)) hn4 1 (.slice A10 (gs.length + 1) c10)
                have RY:=(OF.may_rd hyz.out).mono (S':=NewB w.heap.size (((w7.setCell ⟨tb,1,none⟩ (.slice A10 (gs.length + 1) c10)).setCell ⟨w.heap.size + 4,0,none⟩ (.slice Ay ys.length cy)).setCell ⟨w.heap.size + 4,1,none⟩ (.slice A10 (gs.length + 1) c10))) (fun b hb=>⟨by have:=hb.1.1;omega,hb.2.lt,hb.2⟩)
                have RG:=(GF.go_rd (by rw [List.length_append];exact HBY.out.2)).mono (S':=NewB w.heap.size (((w7.setCell ⟨tb,1,none⟩ (.slice A10 (gs.length + 1) c10)).setCell ⟨w.heap.size + 4,0,none⟩ (.slice Ay ys.length cy)).setCell ⟨w.heap.size + 4,1,none⟩ (.slice A10 (gs.length + 1) c10))) (fun b hb=>⟨by
                    rcases hb.1 with h | h | h
                    · have:=h.1;omega
                    · have:=h.1;omega
                    · have:=HGB.out.base_le _ h;omega,hb.2.lt,hb.2⟩)
                exact bodyPost_ret (v:=.tuple #[.agg #[.slice Ay ys.length cy,.slice A10 (gs.length + 1) c10],.int .i64 0]) (Eq.trans (results_row2 (P:=Try.prog) (fn:=Try.f24) (p:=8) (u:=9) (ty:=28) rfl _ _ (w.heap.size + 4) 28 #[.slice Ay ys.length cy,.slice A10 (gs.length + 1) c10] (0,0) _ rfl B5 Try.underlying28 rfl (by kernel_rfl)) rfl) rfl ⟨⟨0,ys,gs ++ [newGo number ki a y bs ys],Ay,cy,A10,c10,by rw [HTL.out A10 c10],.inr (.inr (.inr (.inr ⟨HOK.out,HC0.out,HNO.out,HL.out,rfl,rfl,rfl⟩))),RY,by rw [HTL.out A10 c10];exact RG⟩,T5⟩
           · have hk4 : ¬ ki = 4:=fun h=>by
              subst h
              simp at e4
             have HMS : Hid (newGo number ki a y bs ys = (number,(ki,a,y,bs,()),[],())):=by
              have h1 : mkOf ki ys = []:=if_neg hk4
              exact congrArg (fun z : List Int=>(show GoTy.T from (number,(ki,a,y,bs,()),z,()))) h1
             have HMI : Hid ((∀ x ∈ ([] : List Int),IsInt x) ∧ ([] : List Int).length * 8 ≤ 140737488355328):=⟨by simp,by simp⟩
             have hd4 : decide ((ki.toNat : Int) = 4) = false:=by rw [decide_eq_false_iff_not];simpa using e4
             have MK : MarksO W8 (Iv (lo2 + 1) W8.heap.size) 3 (.slice none 0 0) []:=.inl ⟨rfl,none,0,rfl,by unfold maxLen;omega⟩
             clear hk4
             go_upto_region 20 with fail
             clear q8 e4 hd4
             have hF1:=HWT.out
             have hF2:=HLO.out
             have bA:=Ext.alloc (Below.refl W8.heap.size W8) (.cells #[.int .i64 number,.int .u8 (ki.toNat : Int),.int .i64 a,.int .i64 y,.slice Dn bs.length dn,(.slice none 0 0)] 64)
             have TA:=T8.next bA
             have ZA:=Z8.next bA
             have OA:=O8.next (fun b hb=>by have:=hb.2;have:=R8.lt;omega) bA
             have GA:=G8.next (fun b hb=>by have:=hb.2;have:=R8.lt;omega) bA
             have tA:=Ext.trans t8 bA
             have hR2:=R8.lt
             have hA2:=bA.size
             have EA : (goE 3).E (W8.alloc (.cells #[.int .i64 number,.int .u8 (ki.toNat : Int),.int .i64 a,.int .i64 y,.slice Dn bs.length dn,(.slice none 0 0)] 64)) (Iv lo5 (W8.alloc (.cells #[.int .i64 number,.int .u8 (ki.toNat : Int),.int .i64 a,.int .i64 y,.slice Dn bs.length dn,(.slice none 0 0)] 64)).heap.size) (newGo number ki a y bs ys) #[.int .i64 number,.int .u8 (ki.toNat : Int),.int .i64 a,.int .i64 y,.slice Dn bs.length dn,(.slice none 0 0)].toList:=by
              rw [HMS.out]
              refine ⟨number,ki,a,y,bs,[],_,_,rfl,rfl,⟨HN.out,HAY.out.1,HAY.out.2⟩,HMI.out.1,HMI.out.2,(r8.below bA).mono (fun b hb=>⟨⟨⟨hb.1.1,by have:=hb.1.2;omega⟩,hb.2.below bA⟩,MK.ne (by have:=hb.1.2;omega)⟩),(MK.frame (fun b hb=>bA.block b hb.2)).mono (fun b hb=>⟨by have:=hb.1;omega,Nat.lt_of_lt_of_le hb.2 hA2⟩)⟩
             have rdA:=rd_row W8 #[.int .i64 number,.int .u8 (ki.toNat : Int),.int .i64 a,.int .i64 y,.slice Dn bs.length dn,(.slice none 0 0)] 64
             have HBY : Hid (gs.length + 1 ≤ maxLen ∧ (gs.length + 1) * 80 ≤ 140737488355328):=by
              have h1:=HOK.out.few
              show _ ∧ _
              unfold maxLen
              omega
             have HTL : Hid (∀ (A : Option Addr) (c : Nat),Value.slice A (gs ++ [newGo number ki a y bs ys]).length c = Value.slice A (gs.length + 1) c):=fun A c=>by
              rw [List.length_append]
              rfl
             have yT:=T8.cell
             have yR:=R8.cell
             have hwtb : w.heap.size + 4 < tb:=by omega
             have HEND:=Lib.hid (And.intro hF1 (And.intro hF2 (And.intro hR2 hA2)))
             clear hF1 hF2 hA2 bA T8 Z8 O8 G8 t8 r8 R8
             go_wp2_with (at_builtin;refine wpList_pushE rfl (.tmp 73) (.tmp 75) 26 rfl mm 64 ig _ 80 Try.underlying26 hig hg0 hg1 hg2 rfl (by decide) _ gs (Iv mm tb) (Iv lo5 (W8.alloc (.cells #[.int .i64 number,.int .u8 (ki.toNat : Int),.int .i64 a,.int .i64 y,.slice Dn bs.length dn,(.slice none 0 0)] 64)).heap.size) rfl GA (fun b hb=>by have:=hb.2;have:=HEND.out;omega) (some ⟨W8.heap.size,0,none⟩) 1 _ rfl rdA (newGo number ki a y bs ys) EA (fun b hb=>⟨fun hf=>by have h1:=hf.2;have h2:=hb.1;have:=HEND.out;omega,hb.2⟩) HBY.out.1 HBY.out.2 (by have:=HEND.out;omega) ?_;intro v7 w7 O7 g7 k7;obtain ⟨A10,c10,e10⟩:=O7.slice;have e11:=e10.trans (HTL.out A10 c10);subst e11;have hE:=HEND.out;have TB:=TA.grown g7 (fun e=>absurd (HGL.out _ e) (Nat.lt_irrefl _));have ZB:=ZA.grown g7 (fun e=>by have:=k7 _ e;omega);have tB:=Below.grown tA g7 tA.size (fun r e=>by have:=k7 r e;omega);have OB:=OwnE.frame OA (fun b hb=>g7.block b (by have:=hb.2;omega) (fun e=>by have h1:=k7 _ e.symm;have:=hb.2;omega));have HGB:=Lib.hid O7;have HNE:=Lib.hid (O7.box_ne TB (by decide));have yB:=TB.cell;have fB:=TB.free;have zB:=ZB.cell;have zf:=ZB.free;clear yT yR TA ZA tA OA GA EA rdA g7 k7 O7 e10 hE)
             have hE:=HEND.out
             have B5 : BoxOf _ (w.heap.size + 4) #[.slice Ay ys.length cy,.slice A10 (gs.length + 1) c10] 28:=mbox_self (mbox_self (mbox_else ZB (show w.heap.size + 4 ≠ tb by omega) 1 (.slice A10 (gs.length + 1) c10)) 0 (.slice Ay ys.length cy)) 1 (.slice A10 (gs.length + 1) c10)
             have T5:=Below.setCell (p:=⟨w.heap.size + 4,1,none⟩) (Below.setCell (p:=⟨w.heap.size + 4,0,none⟩) (Below.setCell (p:=⟨tb,1,none⟩) tB (show w.heap.size ≤ tb by omega) (.slice A10 (gs.length + 1) c10)) (show w.heap.size ≤ w.heap.size + 4 by omega) (.slice Ay ys.length cy)) (show w.heap.size ≤ w.heap.size + 4 by omega) (.slice A10 (gs.length + 1) c10)
             have OF:=OwnE.setElse (k:=w.heap.size + 4) (OwnE.setElse (k:=w.heap.size + 4) (OwnE.setElse (k:=tb) OB (fun h=>by have:=h.2;omega) 1 (.slice A10 (gs.length + 1) c10)) (fun h=>by have:=h.1;omega) 0 (.slice Ay ys.length cy)) (fun h=>by have:=h.1;omega) 1 (.slice A10 (gs.length + 1) c10)
             have hn4 : ¬ (fun b=>Iv mm tb b ∨ Iv lo5 (W8.alloc (.cells #[.int .i64 number,.int .u8 (ki.toNat : Int),.int .i64 a,.int .i64 y,.slice Dn bs.length dn,(.slice none 0 0)] 64)).heap.size b ∨ (Value.slice A10 (gs.length + 1) c10).ownBlock = some b) (w.heap.size + 4):=fun h=>by
              rcases h with h | h | h
              · have:=h.1;omega
              · have:=h.1;omega
              · have:=HGB.out.base_le _ h;omega
             have GF:=OwnE.setElse (k:=w.heap.size + 4) (OwnE.setElse (k:=w.heap.size + 4) (OwnE.setElse (k:=tb) HGB.out (fun h=>by
              rcases h with h | h | h
              · have:=h.2;omega
              · have:=h.1;omega
              · exact HNE.out h) 1 (.slice A10 (gs.length + 1) c10)) hn4 0 (.slice Ay ys.length cy)) hn4 1 (.slice A10 (gs.length + 1) c10)
             have RY:=(OF.may_rd hyz.out).mono (S':=NewB w.heap.size (((w7.setCell ⟨tb,1,none⟩ (.slice A10 (gs.length + 1) c10)).setCell ⟨w.heap.size + 4,0,none⟩ (.slice Ay ys.length cy)).setCell ⟨w.heap.size + 4,1,none⟩ (.slice A10 (gs.length + 1) c10))) (fun b hb=>⟨by have:=hb.1.1;omega,hb.2.lt,hb.2⟩)
             have RG:=(GF.go_rd (by rw [List.length_append];exact HBY.out.2)).mono (S':=NewB w.heap.size (((w7.setCell ⟨tb,1,none⟩ (.slice A10 (gs.length + 1) c10)).setCell ⟨w.heap.size + 4,0,none⟩ (.slice Ay ys.length cy)).setCell ⟨w.heap.size + 4,1,none⟩ (.slice A10 (gs.length + 1) c10))) (fun b hb=>⟨by
              rcases hb.1 with h | h | h
              · have:=h.1;omega
              · have:=h.1;omega
              · have:=HGB.out.base_le _ h;omega,hb.2.lt,hb.2⟩)
             exact bodyPost_ret (v:=.tuple #[.agg #[.slice Ay ys.length cy,.slice A10 (gs.length + 1) c10],.int .i64 0]) (Eq.trans (results_row2 (P:=Try.prog) (fn:=Try.f24) (p:=8) (u:=9) (ty:=28) rfl _ _ (w.heap.size + 4) 28 #[.slice Ay ys.length cy,.slice A10 (gs.length + 1) c10] (0,0) _ rfl B5 Try.underlying28 rfl (by kernel_rfl)) rfl) rfl ⟨⟨0,ys,gs ++ [newGo number ki a y bs ys],Ay,cy,A10,c10,by rw [HTL.out A10 c10],.inr (.inr (.inr (.inr ⟨HOK.out,HC0.out,HNO.out,HL.out,rfl,rfl,rfl⟩))),RY,by rw [HTL.out A10 c10];exact RG⟩,T5⟩
   · have HC0:=Lib.hid hc
     have e1 : (askCode ⟨id,m,c,r,l,h⟩ (ki.toNat : Int) a y bs.length != 0) = true:=by simpa using hc
     generalize hE : askCode ⟨id,m,c,r,l,h⟩ (ki.toNat : Int) a y bs.length = E at *
     have HE:=Lib.hid hE
     clear hE hc
     go_wp2
     have f9:=(Z2).free
     have B5 : BoxOf _ (w.heap.size + 4) #[.slice none 0 0,.slice none 0 0] 28:=mbox_self (mbox_self Z2 0 (.slice none 0 0)) 1 (.slice none 0 0)
     have T5:=Below.setCell (p:=⟨w.heap.size + 4,1,none⟩) (Below.setCell (p:=⟨w.heap.size + 4,0,none⟩) t2 (show w.heap.size ≤ w.heap.size + 4 by omega) (.slice none 0 0)) (show w.heap.size ≤ w.heap.size + 4 by omega) (.slice none 0 0)
     exact bodyPost_ret (v:=.tuple #[.agg #[.slice none 0 0,.slice none 0 0],.int .i64 (E)]) (Eq.trans (results_row2 (P:=Try.prog) (fn:=Try.f24) (p:=8) (u:=9) (ty:=28) rfl _ _ (w.heap.size + 4) 28 #[.slice none 0 0,.slice none 0 0] (0,0) _ rfl B5 Try.underlying28 rfl (by kernel_rfl)) rfl) rfl ⟨BegIs.err (.inr (.inl ⟨HOK.out,by rw [HE.out];exact HC0.out,HE.out.symm,rfl,rfl⟩)),T5⟩
 · have HNOK:=Lib.hid hno
   clear hno
   go_wp2
   have f9:=(Z1).free
   have B5 : BoxOf _ (w.heap.size + 4) #[.slice none 0 0,.slice none 0 0] 28:=mbox_self (mbox_self Z1 0 (.slice none 0 0)) 1 (.slice none 0 0)
   have T5:=Below.setCell (p:=⟨w.heap.size + 4,1,none⟩) (Below.setCell (p:=⟨w.heap.size + 4,0,none⟩) t1 (show w.heap.size ≤ w.heap.size + 4 by omega) (.slice none 0 0)) (show w.heap.size ≤ w.heap.size + 4 by omega) (.slice none 0 0)
   exact bodyPost_ret (v:=.tuple #[.agg #[.slice none 0 0,.slice none 0 0],.int .i64 (8)]) (Eq.trans (results_row2 (P:=Try.prog) (fn:=Try.f24) (p:=8) (u:=9) (ty:=28) rfl _ _ (w.heap.size + 4) 28 #[.slice none 0 0,.slice none 0 0] (0,0) _ rfl B5 Try.underlying28 rfl (by kernel_rfl)) rfl) rfl ⟨BegIs.err (.inl ⟨HNOK.out,rfl,rfl,rfl⟩),T5⟩
end Go.Proofs.Ytclbihcggjjgaaa
namespace Go.Proofs.Ytclbihcggjjgaaa
open Go Go.RowKit
set_option linter.unusedSimpArgs false
set_option linter.unusedVariables false
theorem cell_lt {w : World} {b o : Nat} {v : Value} (h : w.cell? ⟨b,o,none⟩ = some v) : b < w.heap.size:=by
 rcases Nat.lt_or_ge b w.heap.size with h1 | h1
 · exact h1
 · have h2 : w.heap[b]? = none:=Array.getElem?_eq_none h1
   unfold World.cell? at h
   simp [h2] at h
theorem eqb_yes (S T : Nat → Prop) (us vs : List UInt8) (A2 : Option Addr) (c2 : Nat) (A3 : Option Addr) (c3 : Nat) (w : World) (h1 : RdIn w S (.sl .byte) us [.slice A2 us.length c2]) (h2 : RdIn w T (.sl .byte) vs [.slice A3 vs.length c3]) :
 Calls Try.prog 51 #[.slice A2 us.length c2,.slice A3 vs.length c3] w fun e w''=>YesNo (us = vs) e ∧ Below w.heap.size w w'':=by
 refine (eqb_any A2 A3 us.length vs.length c2 c3 us vs w h1.bytes_bs h2.bytes_bs).mono ?_
 rintro e w1 ⟨rfl,rfl⟩
 exact ⟨YesNo.of (by simp),Below.refl _ _⟩
set_option maxRecDepth 100000 in
set_option maxHeartbeats 2000000 in
theorem eqf1_any (S T : Nat → Prop) (xs zs : List (List UInt8)) (A : Option Addr) (c : Nat) (D : Option Addr) (dc : Nat) (w : World) (hx : RdIn w S (.sl (.sl .byte)) xs [.slice A xs.length c]) (hz : RdIn w T (.sl (.sl .byte)) zs [.slice D zs.length dc]) :
 Calls Try.prog 50 #[.slice A xs.length c,.slice D zs.length dc,.func (.func 51) #[] #[]] w fun e w'=>YesNo (xs = zs) e ∧ Below w.heap.size w w':=by
 have HLE : Hid (∀ (w' : World) (us vs : List UInt8) (A2 : Option Addr) (c2 : Nat) (A3 : Option Addr) (c3 : Nat),RdIn w' S (.sl .byte) us [.slice A2 us.length c2] → RdIn w' T (.sl .byte) vs [.slice A3 vs.length c3] → Calls Try.prog 51 #[.slice A2 us.length c2,.slice A3 vs.length c3] w' fun e w''=>YesNo (us = vs) e ∧ Below w'.heap.size w' w''):=fun w' us vs A2 c2 A3 c3 h1 h2=>eqb_yes S T us vs A2 c2 A3 c3 w' h1 h2
 have HX:=Lib.hid hx
 have HZ:=Lib.hid hz
 have HXM:=Lib.hid (val_max hx)
 clear hx hz
 go_enter Try.func50,Try.ntmps50
 rcases Bool.eq_false_or_eq_true ((xs.length : Int) != (zs.length : Int)) with e1 | e1
 · go_wp2
   go_ret
   exact ⟨YesNo.no fun h=>by rw [h] at e1;simp at e1,Below.refl _ _⟩
 · have HLX : Hid (xs.length = zs.length):=by have h9 : (xs.length : Int) = (zs.length : Int):=(by simpa using e1)
                                              show _ = _
                                              omega
   obtain ⟨W,hW⟩ : ∃ z : World,z = w:=⟨_,rfl⟩
   have b0 : Below W.heap.size W w:=by rw [hW];exact Below.refl _ _
   have HWW:=Lib.hid hW
   rw [← hW] at HX HZ
   clear hW
   go_wp2
   clear e1
   go_loopw [17] (fun i wr=>∃ (j : Nat),j ≤ xs.length ∧ i = .int .i64 j ∧ Below W.heap.size W wr ∧ Hid (∀ i,i < j → LikeAt xs zs i)) (fun i _=>xs.length - (intOf i).toNat)
   case atStart=>exact ⟨0,by omega,rfl,b0,fun i h=>absurd h (Nat.not_lt_zero _)⟩
   case round=>
    obtain ⟨j,hj,rfl,b1,HA⟩:=hrel
    clear b0
    have bw : Below w.heap.size w wr:=by have:=HWW.out;subst this;exact b1
    by_cases hlt : j < xs.length
    · have hlt2 : j < zs.length:=by have:=HLX.out;omega
      obtain ⟨b,off,A2,c2,rfl,q2,r2⟩:=val_at (HX.out.below b1) hlt
      obtain ⟨b',off',A3,c3,rfl,q3,r3⟩:=val_at (HZ.out.below b1) hlt2
      have HLK : Hid (LikeAt xs zs j ↔ xs[j] = zs[j]):=⟨fun h=>h hlt hlt2,fun h _ _=>h⟩
      generalize xs[j] = us at *
      generalize zs[j] = vs at *
      have HWJ:=next_wrap HXM.out hlt
      have HLJ:=Lib.hid hlt
      have HC:=Lib.hid (HLE.out wr us vs A2 c2 A3 c3 r2 r3)
      clear r2 r3
      go_wp2_with fail
      refine HC.out.mono ?_
      rintro e w3 ⟨⟨bv,rfl,hbv⟩,b3⟩
      have HBV:=Lib.hid hbv
      clear hbv
      cases bv with
      | false=>
        go_wp2
        go_ret
        exact ⟨YesNo.no fun h=>Bool.noConfusion (HBV.out.2 (HLK.out.1 (by rw [h];intro _ _;rfl))),Ext.trans bw b3⟩
      | true=>
        have hk:=HLK.out.2 (HBV.out.1 (by first | rfl | trivial))
        have HA' : Hid (∀ i,i < j + 1 → LikeAt xs zs i):=by
         intro i hi
         by_cases h : i = j
         · subst h
           exact hk
         · exact HA.out i (by omega)
        clear hk
        have b5:=Ext.trans b1 b3
        go_wp2
        go_roundw
        case rel=>exact ⟨j + 1,HLJ.out,by first | exact round_same HWJ | go_num,b5,HA'⟩
        case measure=>first | exact round_less HWJ HLJ.out | (have h:=HLJ.out;simp [intOf];omega)
    · have HN:=Lib.hid (like_all HLX.out hlt HA.out)
      go_wp2
      go_ret
      exact ⟨YesNo.yes HN.out,bw⟩
set_option maxRecDepth 100000 in
theorem same1_any (S T : Nat → Prop) (us vs : List (List UInt8)) (A2 : Option Addr) (c2 : Nat) (A3 : Option Addr) (c3 : Nat) (w : World) (h1 : RdIn w S (.sl (.sl .byte)) us [.slice A2 us.length c2]) (h2 : RdIn w T (.sl (.sl .byte)) vs [.slice A3 vs.length c3]) :
 Calls Try.prog 49 #[.slice A2 us.length c2,.slice A3 vs.length c3] w fun e w''=>YesNo (us = vs) e ∧ Below w.heap.size w w'':=by
 have HC:=Lib.hid (eqf1_any S T us vs A2 c2 A3 c3 w h1 h2)
 clear h1 h2
 go_enter Try.func49,Try.ntmps49
 go_wp2_with fail
 refine HC.out.mono ?_
 rintro e w3 ⟨⟨bv,rfl,hbv⟩,b3⟩
 have HBV:=Lib.hid hbv
 clear hbv
 go_wp2
 go_ret
 exact ⟨⟨bv,rfl,HBV.out⟩,b3⟩
set_option maxRecDepth 100000 in
set_option maxHeartbeats 2000000 in
theorem eqf2_any (S T : Nat → Prop) (xs zs : List (List (List UInt8))) (A : Option Addr) (c : Nat) (D : Option Addr) (dc : Nat) (w : World) (hx : RdIn w S (.sl (.sl (.sl .byte))) xs [.slice A xs.length c]) (hz : RdIn w T (.sl (.sl (.sl .byte))) zs [.slice D zs.length dc]) :
 Calls Try.prog 52 #[.slice A xs.length c,.slice D zs.length dc,.func (.func 49) #[] #[]] w fun e w'=>YesNo (xs = zs) e ∧ Below w.heap.size w w':=by
 have HLE : Hid (∀ (w' : World) (us vs : List (List UInt8)) (A2 : Option Addr) (c2 : Nat) (A3 : Option Addr) (c3 : Nat),RdIn w' S (.sl (.sl .byte)) us [.slice A2 us.length c2] → RdIn w' T (.sl (.sl .byte)) vs [.slice A3 vs.length c3] → Calls Try.prog 49 #[.slice A2 us.length c2,.slice A3 vs.length c3] w' fun e w''=>YesNo (us = vs) e ∧ Below w'.heap.size w' w''):=fun w' us vs A2 c2 A3 c3 h1 h2=>same1_any S T us vs A2 c2 A3 c3 w' h1 h2
 have HX:=Lib.hid hx
 have HZ:=Lib.hid hz
 have HXM:=Lib.hid (may_max hx)
 clear hx hz
 go_enter Try.func52,Try.ntmps52
 rcases Bool.eq_false_or_eq_true ((xs.length : Int) != (zs.length : Int)) with e1 | e1
 · go_wp2
   go_ret
   exact ⟨YesNo.no fun h=>by rw [h] at e1;simp at e1,Below.refl _ _⟩
 · have HLX : Hid (xs.length = zs.length):=by have h9 : (xs.length : Int) = (zs.length : Int):=(by simpa using e1)
                                              show _ = _
                                              omega
   obtain ⟨W,hW⟩ : ∃ z : World,z = w:=⟨_,rfl⟩
   have b0 : Below W.heap.size W w:=by rw [hW];exact Below.refl _ _
   have HWW:=Lib.hid hW
   rw [← hW] at HX HZ
   clear hW
   go_wp2
   clear e1
   go_loopw [17] (fun i wr=>∃ (j : Nat),j ≤ xs.length ∧ i = .int .i64 j ∧ Below W.heap.size W wr ∧ Hid (∀ i,i < j → LikeAt xs zs i)) (fun i _=>xs.length - (intOf i).toNat)
   case atStart=>exact ⟨0,by omega,rfl,b0,fun i h=>absurd h (Nat.not_lt_zero _)⟩
   case round=>
    obtain ⟨j,hj,rfl,b1,HA⟩:=hrel
    clear b0
    have bw : Below w.heap.size w wr:=by have:=HWW.out;subst this;exact b1
    by_cases hlt : j < xs.length
    · have hlt2 : j < zs.length:=by have:=HLX.out;omega
      obtain ⟨b,off,A2,c2,rfl,q2,r2⟩:=may_at (HX.out.below b1) hlt
      obtain ⟨b',off',A3,c3,rfl,q3,r3⟩:=may_at (HZ.out.below b1) hlt2
      have HLK : Hid (LikeAt xs zs j ↔ xs[j] = zs[j]):=⟨fun h=>h hlt hlt2,fun h _ _=>h⟩
      generalize xs[j] = us at *
      generalize zs[j] = vs at *
      have HWJ:=next_wrap HXM.out hlt
      have HLJ:=Lib.hid hlt
      have HC:=Lib.hid (HLE.out wr us vs A2 c2 A3 c3 r2 r3)
      clear r2 r3
      go_wp2_with fail
      refine HC.out.mono ?_
      rintro e w3 ⟨⟨bv,rfl,hbv⟩,b3⟩
      have HBV:=Lib.hid hbv
      clear hbv
      cases bv with
      | false=>
        go_wp2
        go_ret
        exact ⟨YesNo.no fun h=>Bool.noConfusion (HBV.out.2 (HLK.out.1 (by rw [h];intro _ _;rfl))),Ext.trans bw b3⟩
      | true=>
        have hk:=HLK.out.2 (HBV.out.1 (by first | rfl | trivial))
        have HA' : Hid (∀ i,i < j + 1 → LikeAt xs zs i):=by
         intro i hi
         by_cases h : i = j
         · subst h
           exact hk
         · exact HA.out i (by omega)
        clear hk
        have b5:=Ext.trans b1 b3
        go_wp2
        go_roundw
        case rel=>exact ⟨j + 1,HLJ.out,by first | exact round_same HWJ | go_num,b5,HA'⟩
        case measure=>first | exact round_less HWJ HLJ.out | (have h:=HLJ.out;simp [intOf];omega)
    · have HN:=Lib.hid (like_all HLX.out hlt HA.out)
      go_wp2
      go_ret
      exact ⟨YesNo.yes HN.out,bw⟩
set_option maxRecDepth 100000 in
set_option maxHeartbeats 2000000 in
theorem equi_any (S T : Nat → Prop) (xs zs : List Int) (A : Option Addr) (c : Nat) (D : Option Addr) (dc : Nat) (w : World) (hx : RdIn w S (.sl .int) xs [.slice A xs.length c]) (hz : RdIn w T (.sl .int) zs [.slice D zs.length dc]) :
 Calls Try.prog 55 #[.slice A xs.length c,.slice D zs.length dc] w fun e w'=>YesNo (xs = zs) e ∧ Below w.heap.size w w':=by
 have HX:=Lib.hid hx
 have HZ:=Lib.hid hz
 have HXM:=Lib.hid (mark_max hx)
 clear hx hz
 go_enter Try.func55,Try.ntmps55
 rcases Bool.eq_false_or_eq_true ((xs.length : Int) != (zs.length : Int)) with e1 | e1
 · go_wp2
   go_ret
   exact ⟨YesNo.no fun h=>by rw [h] at e1;simp at e1,Below.refl _ _⟩
 · have HLX : Hid (xs.length = zs.length):=by have h9 : (xs.length : Int) = (zs.length : Int):=(by simpa using e1)
                                              show _ = _
                                              omega
   obtain ⟨W,hW⟩ : ∃ z : World,z = w:=⟨_,rfl⟩
   have b0 : Below W.heap.size W w:=by rw [hW];exact Below.refl _ _
   have HWW:=Lib.hid hW
   rw [← hW] at HX HZ
   clear hW
   go_wp2
   clear e1
   go_loopw [13] (fun i wr=>∃ (j : Nat),j ≤ xs.length ∧ i = .int .i64 j ∧ Below W.heap.size W wr ∧ Hid (∀ i,i < j → LikeAt xs zs i)) (fun i _=>xs.length - (intOf i).toNat)
   case atStart=>exact ⟨0,by omega,rfl,b0,fun i h=>absurd h (Nat.not_lt_zero _)⟩
   case round=>
    obtain ⟨j,hj,rfl,b1,HA⟩:=hrel
    clear b0
    have bw : Below w.heap.size w wr:=by have:=HWW.out;subst this;exact b1
    by_cases hlt : j < xs.length
    · have hlt2 : j < zs.length:=by have:=HLX.out;omega
      obtain ⟨b,off,rfl,q2,_⟩:=mark_at (HX.out.below b1) hlt
      obtain ⟨b',off',rfl,q3,_⟩:=mark_at (HZ.out.below b1) hlt2
      have HLK : Hid (LikeAt xs zs j ↔ xs[j] = zs[j]):=⟨fun h=>h hlt hlt2,fun h _ _=>h⟩
      generalize xs[j] = us at *
      generalize zs[j] = vs at *
      have HWJ:=next_wrap HXM.out hlt
      have HLJ:=Lib.hid hlt
      rcases Bool.eq_false_or_eq_true (us != vs) with e1 | e1
      · go_wp2
        go_quiet (fail)
        go_wp2
        go_ret
        exact ⟨YesNo.no fun h=>by have h9 : us = vs:=HLK.out.1 (by rw [h];intro _ _;rfl);rw [h9] at e1;simp at e1,below_drewN' bw _⟩
      · have hk:=HLK.out.2 (by simpa using e1)
        have HA' : Hid (∀ i,i < j + 1 → LikeAt xs zs i):=by
         intro i hi
         by_cases h : i = j
         · subst h
           exact hk
         · exact HA.out i (by omega)
        clear hk
        go_wp2
        go_quiet (fail)
        have b5:=below_drewN' b1 nq
        go_wp2
        go_roundw
        case rel=>exact ⟨j + 1,HLJ.out,by first | exact round_same HWJ | go_num,b5,HA'⟩
        case measure=>first | exact round_less HWJ HLJ.out | (have h:=HLJ.out;simp [intOf];omega)
    · have HN:=Lib.hid (like_all HLX.out hlt HA.out)
      go_wp2
      go_ret
      exact ⟨YesNo.yes HN.out,bw⟩
set_option maxRecDepth 100000 in
set_option maxHeartbeats 2000000 in
theorem same2_any (S T : Nat → Prop) (g k : GoTy.T) (A1 : Option Addr) (c1 : Nat) (A2 : Option Addr) (c2 : Nat) (A3 : Option Addr) (c3 : Nat) (A4 : Option Addr) (c4 : Nat) (w : World) (h1 : RdIn w S (.sl .byte) (datOf g) [.slice A1 (datOf g).length c1]) (h2 : RdIn w S (.sl .int) (mksOf g) [.slice A2 (mksOf g).length c2]) (h3 : RdIn w T (.sl .byte) (datOf k) [.slice A3 (datOf k).length c3]) (h4 : RdIn w T (.sl .int) (mksOf k) [.slice A4 (mksOf k).length c4]) :
 Calls Try.prog 54 #[.agg #[.int .i64 (nuOf g),.int .u8 ((kiOf g).toNat : Int),.int .i64 (atOf g),.int .i64 (manyOf g),.slice A1 (datOf g).length c1,.slice A2 (mksOf g).length c2],.agg #[.int .i64 (nuOf k),.int .u8 ((kiOf k).toNat : Int),.int .i64 (atOf k),.int .i64 (manyOf k),.slice A3 (datOf k).length c3,.slice A4 (mksOf k).length c4]] w fun e w'=>YesNo (g = k) e ∧ Below w.heap.size w w':=by
 have P0:=BoxOf.alloc (BoxOf.new w #[.int .i64 (nuOf g),.int .u8 ((kiOf g).toNat : Int),.int .i64 (atOf g),.int .i64 (manyOf g),.slice A1 (datOf g).length c1,.slice A2 (mksOf g).length c2] 64) (.cells #[.int .i64 (nuOf k),.int .u8 ((kiOf k).toNat : Int),.int .i64 (atOf k),.int .i64 (manyOf k),.slice A3 (datOf k).length c3,.slice A4 (mksOf k).length c4] 64)
 have Q0:=BoxOf.new' (w.alloc (.cells #[.int .i64 (nuOf g),.int .u8 ((kiOf g).toNat : Int),.int .i64 (atOf g),.int .i64 (manyOf g),.slice A1 (datOf g).length c1,.slice A2 (mksOf g).length c2] 64)) (w.heap.size + 1) #[.int .i64 (nuOf k),.int .u8 ((kiOf k).toNat : Int),.int .i64 (atOf k),.int .i64 (manyOf k),.slice A3 (datOf k).length c3,.slice A4 (mksOf k).length c4] 64 (by simp)
 have t0:=Ext.alloc (Ext.alloc (Below.refl w.heap.size w) (.cells #[.int .i64 (nuOf g),.int .u8 ((kiOf g).toNat : Int),.int .i64 (atOf g),.int .i64 (manyOf g),.slice A1 (datOf g).length c1,.slice A2 (mksOf g).length c2] 64)) (.cells #[.int .i64 (nuOf k),.int .u8 ((kiOf k).toNat : Int),.int .i64 (atOf k),.int .i64 (manyOf k),.slice A3 (datOf k).length c3,.slice A4 (mksOf k).length c4] 64)
 have HD:=Lib.hid (eqb_yes S T (datOf g) (datOf k) A1 c1 A3 c3 _ (h1.below t0) (h3.below t0))
 have HM:=Lib.hid (fun w' (bb : Below w.heap.size w w')=>equi_any S T (mksOf g) (mksOf k) A2 c2 A4 c4 w' (h2.below bb) (h4.below bb))
 clear h1 h2 h3 h4
 go_enter Try.func54,Try.ntmps54
 go_upto_region 1 with fail
 generalize (w.alloc (.cells #[.int .i64 (nuOf g),.int .u8 ((kiOf g).toNat : Int),.int .i64 (atOf g),.int .i64 (manyOf g),.slice A1 (datOf g).length c1,.slice A2 (mksOf g).length c2] 64)).alloc (.cells #[.int .i64 (nuOf k),.int .u8 ((kiOf k).toNat : Int),.int .i64 (atOf k),.int .i64 (manyOf k),.slice A3 (datOf k).length c3,.slice A4 (mksOf k).length c4] 64) = W at *
 have x0:=P0.cell
 have y0:=Q0.cell
 rcases Bool.eq_false_or_eq_true (((kiOf g).toNat : Int) == ((kiOf k).toNat : Int)) with e1 | e1
 rotate_left
 · go_wp2
   go_ret
   exact ⟨YesNo.no fun h=>by rw [h] at e1;simp at e1,t0⟩
 rcases Bool.eq_false_or_eq_true (atOf g == atOf k) with e2 | e2
 rotate_left
 · go_wp2
   go_ret
   exact ⟨YesNo.no fun h=>by rw [h] at e2;simp at e2,t0⟩
 rcases Bool.eq_false_or_eq_true (manyOf g == manyOf k) with e3 | e3
 rotate_left
 · go_wp2
   go_ret
   exact ⟨YesNo.no fun h=>by rw [h] at e3;simp at e3,t0⟩
 go_wp2_with fail
 refine HD.out.mono ?_
 rintro e w3 ⟨⟨bv,rfl,hbv⟩,b3⟩
 have HBV:=Lib.hid hbv
 have t3:=Ext.trans t0 b3
 have x3:=(P0.next b3).cell
 have y3:=(Q0.next b3).cell
 clear hbv x0 y0
 have HE:=Lib.hid (And.intro e1 (And.intro e2 e3))
 cases bv with
 | false=>
   go_wp2
   go_ret
   exact ⟨YesNo.no fun h=>Bool.noConfusion (HBV.out.2 (congrArg datOf h)),t3⟩
 | true=>
   clear e1 e2 e3
   rcases Bool.eq_false_or_eq_true (nuOf g == nuOf k) with e4 | e4
   rotate_left
   · go_wp2
     go_ret
     exact ⟨YesNo.no fun h=>by rw [h] at e4;simp at e4,t3⟩
   go_wp2_with fail
   refine (HM.out _ t3).mono ?_
   rintro e w4 ⟨⟨bv,rfl,hbv⟩,b4⟩
   have HBM:=Lib.hid hbv
   have HE4:=Lib.hid e4
   have t4:=Ext.trans t3 b4
   clear hbv
   go_wp2
   go_ret
   refine ⟨⟨_,rfl,⟨fun h=>?_,fun h=>HBM.out.2 (congrArg mksOf h)⟩⟩,t4⟩
   have h1 : kiOf g = kiOf k:=UInt8.toNat_inj.1 (by have:=HE.out.1;simp at this;omega)
   exact go_ext (by simpa using HE4.out) h1 (by simpa using HE.out.2.1) (by simpa using HE.out.2.2) (HBV.out.1 (by first | rfl | trivial)) (HBM.out.1 h)
set_option maxRecDepth 100000 in
set_option maxHeartbeats 2000000 in
theorem eqf3_any (S T : Nat → Prop) (xs zs : List GoTy.T) (A : Option Addr) (c : Nat) (D : Option Addr) (dc : Nat) (w : World) (hx : RdIn w S (.sl GoTy) xs [.slice A xs.length c]) (hz : RdIn w T (.sl GoTy) zs [.slice D zs.length dc]) :
 Calls Try.prog 53 #[.slice A xs.length c,.slice D zs.length dc,.func (.func 54) #[] #[]] w fun e w'=>YesNo (xs = zs) e ∧ Below w.heap.size w w':=by
 have HX:=Lib.hid hx
 have HZ:=Lib.hid hz
 have HXM:=Lib.hid (go_max hx)
 clear hx hz
 go_enter Try.func53,Try.ntmps53
 rcases Bool.eq_false_or_eq_true ((xs.length : Int) != (zs.length : Int)) with e1 | e1
 · go_wp2
   go_ret
   exact ⟨YesNo.no fun h=>by rw [h] at e1;simp at e1,Below.refl _ _⟩
 · have HLX : Hid (xs.length = zs.length):=by have h9 : (xs.length : Int) = (zs.length : Int):=(by simpa using e1)
                                              show _ = _
                                              omega
   obtain ⟨W,hW⟩ : ∃ z : World,z = w:=⟨_,rfl⟩
   have b0 : Below W.heap.size W w:=by rw [hW];exact Below.refl _ _
   have HWW:=Lib.hid hW
   rw [← hW] at HX HZ
   clear hW
   go_wp2
   clear e1
   go_loopw [17] (fun i wr=>∃ (j : Nat),j ≤ xs.length ∧ i = .int .i64 j ∧ Below W.heap.size W wr ∧ Hid (∀ i,i < j → LikeAt xs zs i)) (fun i _=>xs.length - (intOf i).toNat)
   case atStart=>exact ⟨0,by omega,rfl,b0,fun i h=>absurd h (Nat.not_lt_zero _)⟩
   case round=>
    obtain ⟨j,hj,rfl,b1,HA⟩:=hrel
    clear b0
    have bw : Below w.heap.size w wr:=by have:=HWW.out;subst this;exact b1
    by_cases hlt : j < xs.length
    · have hlt2 : j < zs.length:=by have:=HLX.out;omega
      obtain ⟨b,off,A1,c1,A2,c2,rfl,q0,q1,q2,q3,q4,q5,i0,i1,i2,rb,rm⟩:=go_at (HX.out.below b1) hlt
      obtain ⟨b',off',A3,c3,A4,c4,rfl,p0,p1,p2,p3,p4,p5,k0,k1,k2,sb,sm⟩:=go_at (HZ.out.below b1) hlt2
      have HLK : Hid (LikeAt xs zs j ↔ xs[j] = zs[j]):=⟨fun h=>h hlt hlt2,fun h _ _=>h⟩
      generalize xs[j] = g at *
      generalize zs[j] = k at *
      have HWJ:=next_wrap HXM.out hlt
      have HLJ:=Lib.hid hlt
      have bb:=Ext.alloc (Ext.alloc (Below.refl wr.heap.size wr) (.cells #[.int .i64 (nuOf g),.int .u8 ((kiOf g).toNat : Int),.int .i64 (atOf g),.int .i64 (manyOf g),.slice A1 (datOf g).length c1,.slice A2 (mksOf g).length c2] 64)) (.cells #[.int .i64 (nuOf k),.int .u8 ((kiOf k).toNat : Int),.int .i64 (atOf k),.int .i64 (manyOf k),.slice A3 (datOf k).length c3,.slice A4 (mksOf k).length c4] 64)
      have HC:=Lib.hid (same2_any S T g k A1 c1 A2 c2 A3 c3 A4 c4 _ (rb.below bb) (rm.below bb) (sb.below bb) (sm.below bb))
      have bA:=Ext.alloc (Below.refl wr.heap.size wr) (.cells #[.int .i64 (nuOf g),.int .u8 ((kiOf g).toNat : Int),.int .i64 (atOf g),.int .i64 (manyOf g),.slice A1 (datOf g).length c1,.slice A2 (mksOf g).length c2] 64)
      have hlb : b' < wr.heap.size:=cell_lt p0
      have a0:=(bA.cell (p:=⟨b',off' + j * 6,none⟩) hlb).trans p0
      have a1:=(bA.cell (p:=⟨b',off' + j * 6 + 1,none⟩) hlb).trans p1
      have a2:=(bA.cell (p:=⟨b',off' + j * 6 + 2,none⟩) hlb).trans p2
      have a3:=(bA.cell (p:=⟨b',off' + j * 6 + 3,none⟩) hlb).trans p3
      have a4:=(bA.cell (p:=⟨b',off' + j * 6 + 4,none⟩) hlb).trans p4
      have a5:=(bA.cell (p:=⟨b',off' + j * 6 + 5,none⟩) hlb).trans p5
      have b2:=Ext.trans b1 bb
      have bw2:=Ext.trans bw bb
      have HBB:=Lib.hid (And.intro b2 bw2)
      clear rb rm sb sm i0 i1 i2 k0 k1 k2 bb bA b2 bw2
      go_wp2_with fail
      refine HC.out.mono ?_
      rintro e w3 ⟨⟨bv,rfl,hbv⟩,b3⟩
      have HBV:=Lib.hid hbv
      have b4:=Ext.trans HBB.out.1 b3
      have bw4:=Ext.trans HBB.out.2 b3
      clear hbv HC HBB a0 a1 a2 a3 a4 a5 q0 q1 q2 q3 q4 q5 p0 p1 p2 p3 p4 p5
      cases bv with
      | false=>
        go_wp2
        go_ret
        exact ⟨YesNo.no fun h=>Bool.noConfusion (HBV.out.2 (HLK.out.1 (by rw [h];intro _ _;rfl))),bw4⟩
      | true=>
        have hk:=HLK.out.2 (HBV.out.1 (by first | rfl | trivial))
        have HA' : Hid (∀ i,i < j + 1 → LikeAt xs zs i):=by
         intro i hi
         by_cases h : i = j
         · subst h
           exact hk
         · exact HA.out i (by omega)
        clear hk
        go_wp2
        go_roundw
        case rel=>exact ⟨j + 1,HLJ.out,by first | exact round_same HWJ | go_num,b4,HA'⟩
        case measure=>first | exact round_less HWJ HLJ.out | (have h:=HLJ.out;simp [intOf];omega)
    · have HN:=Lib.hid (like_all HLX.out hlt HA.out)
      go_wp2
      go_ret
      exact ⟨YesNo.yes HN.out,bw⟩
set_option maxRecDepth 100000 in
set_option maxHeartbeats 2000000 in
theorem ssame_any (S T : Nat → Prop) (ys : List (List (List UInt8))) (gs : List GoTy.T) (A : Option Addr) (c : Nat) (B : Option Addr) (d : Nat) (zs : List (List (List UInt8))) (hs : List GoTy.T) (E : Option Addr) (f : Nat) (F : Option Addr) (g : Nat) (w : World) (hy : RdIn w S (.sl (.sl (.sl .byte))) ys [.slice A ys.length c]) (hg : RdIn w S (.sl GoTy) gs [.slice B gs.length d]) (hz : RdIn w T (.sl (.sl (.sl .byte))) zs [.slice E zs.length f]) (hh : RdIn w T (.sl GoTy) hs [.slice F hs.length g]) :
 Calls Try.prog 20 #[.agg #[.slice A ys.length c,.slice B gs.length d],.agg #[.slice E zs.length f,.slice F hs.length g]] w fun e w'=>YesNo (ys = zs ∧ gs = hs) e ∧ Below w.heap.size w w':=by
 have P0:=BoxOf.alloc (BoxOf.new w #[.slice A ys.length c,.slice B gs.length d] 28) (.cells #[.slice E zs.length f,.slice F hs.length g] 28)
 have Q0:=BoxOf.new' (w.alloc (.cells #[.slice A ys.length c,.slice B gs.length d] 28)) (w.heap.size + 1) #[.slice E zs.length f,.slice F hs.length g] 28 (by simp)
 have t0:=Ext.alloc (Ext.alloc (Below.refl w.heap.size w) (.cells #[.slice A ys.length c,.slice B gs.length d] 28)) (.cells #[.slice E zs.length f,.slice F hs.length g] 28)
 have HC:=Lib.hid (eqf2_any S T ys zs A c E f _ (hy.below t0) (hz.below t0))
 have HD : Hid (∀ w',Below w.heap.size w w' → Calls Try.prog 53 #[.slice B gs.length d,.slice F hs.length g,.func (.func 54) #[] #[]] w' fun e w''=>YesNo (gs = hs) e ∧ Below w'.heap.size w' w''):=fun w' bb=>eqf3_any S T gs hs B d F g w' (hg.below bb) (hh.below bb)
 clear hy hg hz hh
 go_enter Try.func20,Try.ntmps20
 go_upto_region 1 with fail
 generalize (w.alloc (.cells #[.slice A ys.length c,.slice B gs.length d] 28)).alloc (.cells #[.slice E zs.length f,.slice F hs.length g] 28) = W at *
 have x0:=P0.cell
 have y0:=Q0.cell
 go_wp2_with fail
 refine HC.out.mono ?_
 rintro e w3 ⟨⟨bv,rfl,hbv⟩,b3⟩
 have HBV:=Lib.hid hbv
 have t3:=Ext.trans t0 b3
 have x3:=(P0.next b3).cell
 have y3:=(Q0.next b3).cell
 clear hbv x0 y0
 cases bv with
 | false=>
   go_wp2
   go_ret
   exact ⟨YesNo.no fun h=>Bool.noConfusion (HBV.out.2 h.1),t3⟩
 | true=>
   go_wp2_with fail
   refine (HD.out _ t3).mono ?_
   rintro e w4 ⟨⟨bv,rfl,hbv⟩,b4⟩
   have HBM:=Lib.hid hbv
   have t4:=Ext.trans t3 b4
   clear hbv
   go_wp2
   go_ret
   exact ⟨⟨_,rfl,⟨fun h=>⟨HBV.out.1 (by first | rfl | trivial),HBM.out.1 h⟩,fun h=>HBM.out.2 h.2⟩⟩,t4⟩
end Go.Proofs.Ytclbihcggjjgaaa
namespace Go.Proofs.Ytclbihcggjjgaaa
open Go Go.RowKit
set_option linter.unusedSimpArgs false
set_option linter.unusedVariables false
def Pick (ys : List (List (List UInt8))) (left : List (List UInt8)) : Prop:=∀ i (h : i < left.length) (h' : i < ys.length),∃ k,∃ hk : k < (ys[i]).length,left[i] = (ys[i])[k]
theorem Pick.nil (ys : List (List (List UInt8))) : Pick ys []:=fun i h=>absurd h (Nat.not_lt_zero _)
theorem Pick.push {ys : List (List (List UInt8))} {left : List (List UInt8)} {z : List UInt8} (h : Pick ys left) (hz : ∀ h' : left.length < ys.length,∃ k,∃ hk : k < (ys[left.length]).length,z = (ys[left.length])[k]) : Pick ys (left ++ [z]):=by
 intro i hi h'
 by_cases hl : i < left.length
 · rw [List.getElem_append_left hl]
   exact h i hl h'
 · have he : i = left.length:=by rw [List.length_append] at hi;simp at hi;omega
   subst he
   rw [List.getElem_append_right (Nat.le_refl _)]
   simp only [Nat.sub_self,List.getElem_cons_zero]
   exact hz h'
def Vals (w : World) (S : Nat → Prop) (left : List (List UInt8)) (vals : List Value) : Prop:=vals.length = left.length ∧ ∀ i (h : i < left.length) (h' : i < vals.length),RdIn w S (.sl .byte) left[i] [vals[i]]
theorem Vals.nil (w : World) (S : Nat → Prop) : Vals w S [] []:=⟨rfl,fun i h=>absurd h (Nat.not_lt_zero _)⟩
theorem Vals.push {w : World} {S : Nat → Prop} {left : List (List UInt8)} {vals : List Value} {z : List UInt8} {v : Value} (h : Vals w S left vals) (hz : RdIn w S (.sl .byte) z [v]) : Vals w S (left ++ [z]) (vals ++ [v]):=by
 refine ⟨by simp [h.1],fun i hi h'=>?_⟩
 by_cases hl : i < left.length
 · have hl' : i < vals.length:=by rw [h.1];exact hl
   rw [List.getElem_append_left hl,List.getElem_append_left hl']
   exact h.2 i hl hl'
 · have he : i = left.length:=by rw [List.length_append] at hi;simp at hi;omega
   subst he
   have h1 : (left ++ [z])[left.length] = z:=by simp
   have h2 : (vals ++ [v])[left.length] = v:=by simp [← h.1]
   rw [h1,h2]
   exact hz
end Go.Proofs.Ytclbihcggjjgaaa
