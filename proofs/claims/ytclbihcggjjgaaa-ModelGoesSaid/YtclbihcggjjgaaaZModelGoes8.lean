/- What this claim needs of my texts, merged and shortened by a program (part 8). -/
import Derived.Test.YtclbihcggjjgaaaZModelGoes7
namespace Go.Proofs.Ytclbihcggjjgaaa
open Go Go.RowKit
set_option linter.unusedSimpArgs false
set_option linter.unusedVariables false
theorem marksO_own {w : World} {base : Nat} {tid : TypeId} {v : Value} {ms : List Int} (h : w.ownsRow base tid 1 v ms.length (ms.map fun x=>Value.int .i64 x)) : MarksO w (Iv base w.heap.size) tid v ms:=MarksO.of_own h
set_option maxRecDepth 100000 in
set_option maxHeartbeats 4000000 in
theorem rtwinE_any (S : Nat → Prop) (ys : List (List (List UInt8))) (gs : List GoTy.T) (A : Option Addr) (c : Nat) (B : Option Addr) (d : Nat) (w : World) (hy : RdIn w S (.sl (.sl (.sl .byte))) ys [.slice A ys.length c]) (hg : RdIn w S (.sl GoTy) gs [.slice B gs.length d]) :
 Calls Try.prog 10 #[.agg #[.slice A ys.length c,.slice B gs.length d]] w fun e w'=>TwinIs w.heap.size ys gs e w' ∧ Below w.heap.size w w':=by
 obtain ⟨iu,hu,hu0,hu1,hu2⟩:=minfo_u8
 obtain ⟨ib,hib,hb0,hb1,hb2⟩:=minfo_bytes
 obtain ⟨il,hil,hl0,hl1,hl2⟩:=minfo_lists
 obtain ⟨ii,hii,hi0,hi1,hi2⟩:=minfo_int
 obtain ⟨ig,hig,hg0,hg1,hg2⟩:=minfo_going
 have P0:=BoxOf.alloc (BoxOf.alloc (BoxOf.new w #[.slice A ys.length c,.slice B gs.length d] 28) (.cells #[.slice none 0 0,.slice none 0 0] 28)) (.cells #[.slice none 0 0,.slice none 0 0] 28)
 have Z0:=BoxOf.alloc (BoxOf.new' (w.alloc (.cells #[.slice A ys.length c,.slice B gs.length d] 28)) (w.heap.size + 1) #[.slice none 0 0,.slice none 0 0] 28 (by simp)) (.cells #[.slice none 0 0,.slice none 0 0] 28)
 have Q0:=BoxOf.new' ((w.alloc (.cells #[.slice A ys.length c,.slice B gs.length d] 28)).alloc (.cells #[.slice none 0 0,.slice none 0 0] 28)) (w.heap.size + 1 + 1) #[.slice none 0 0,.slice none 0 0] 28 (by simp)
 have t0:=Ext.alloc (Ext.alloc (Ext.alloc (Below.refl w.heap.size w) (.cells #[.slice A ys.length c,.slice B gs.length d] 28)) (.cells #[.slice none 0 0,.slice none 0 0] 28)) (.cells #[.slice none 0 0,.slice none 0 0] 28)
 have HY:=Lib.hid hy
 have HG:=Lib.hid hg
 have HYM:=Lib.hid (may_max hy)
 have HGM:=Lib.hid (go_max hg)
 have hyz : Hid (ys.length * 24 ≤ 140737488355328):=by
  obtain ⟨_,_,_,_,h1,_⟩:=view3 hy
  exact h1
 have hgz : Hid (gs.length * 80 ≤ 140737488355328):=by
  obtain ⟨_,_,_,_,h1,_⟩:=viewG hg
  exact h1
 clear hy hg
 go_enter Try.func10,Try.ntmps10
 go_upto_region 2 with fail
 generalize ((w.alloc (.cells #[.slice A ys.length c,.slice B gs.length d] 28)).alloc (.cells #[.slice none 0 0,.slice none 0 0] 28)).alloc (.cells #[.slice none 0 0,.slice none 0 0] 28) = W at *
 obtain ⟨base,hbase⟩ : ∃ z : Nat,z = w.heap.size + 3:=⟨_,rfl⟩
 have hb2' : base ≤ W.heap.size:=by have:=Q0.lt;omega
 have HBS:=Lib.hid (And.intro hbase hb2')
 clear hbase hb2'
 go_wp2
 go_loopw [4] (fun i wr=>∃ (k : Nat) (v : Value),k ≤ ys.length ∧ i = .int .i64 k ∧ Below w.heap.size w wr ∧ BoxOf wr w.heap.size #[.slice A ys.length c,.slice B gs.length d] 28 ∧ BoxOf wr (w.heap.size + 1) #[.slice none 0 0,.slice none 0 0] 28 ∧ BoxOf wr (w.heap.size + 1 + 1) #[v,.slice none 0 0] 28 ∧ OwnE (listE 29) wr (Iv base wr.heap.size) base 30 v (ys.take k) ∧ Hid (base ≤ wr.heap.size)) (fun i _=>ys.length - (intOf i).toNat)
 case atStart=>exact ⟨0,.slice none 0 0,by omega,rfl,t0,P0,Z0,Q0,OwnE.nil _ _ _ _ _,HBS.out.2⟩
 case round=>
  obtain ⟨k,v,hk,rfl,t1,P1,Z1,Q1,O1,HB1⟩:=hrel
  clear t0 P0 Z0 Q0
  have x1:=P1.cell
  by_cases hlt : k < ys.length
  · obtain ⟨b,off,A2,c2,rfl,q2,r2⟩:=may_at (HY.out.below t1) hlt
    have hstep : ys.take (k + 1) = ys.take k ++ [ys[k]]:=List.take_succ_eq_append_getElem hlt
    have HSTK:=Lib.hid hstep
    generalize ys[k] = zs at *
    have HWK:=next_wrap HYM.out hlt
    have HLK:=Lib.hid hlt
    have HZM:=Lib.hid (val_max r2)
    have hzz : Hid (zs.length * 24 ≤ 140737488355328):=by
     obtain ⟨_,_,_,_,h1,_⟩:=view2 r2
     exact h1
    have HR:=Lib.hid r2
    clear r2 hstep
    obtain ⟨w0,hw0⟩ : ∃ z : World,z = wr:=⟨_,rfl⟩
    rw [← hw0] at t1 P1 Z1 Q1 O1 HB1 HR q2
    have bw0 : Below w0.heap.size w0 wr:=by rw [hw0];exact Below.refl _ _
    go_wp2
    clear hw0
    go_loopw [5,6] (fun u i wq=>∃ (j : Nat),j ≤ zs.length ∧ i = .int .i64 j ∧ Below w0.heap.size w0 wq ∧ OwnE bytesE wq (Iv w0.heap.size wq.heap.size) w0.heap.size 29 u (zs.take j)) (fun _ i _=>zs.length - (intOf i).toNat)
    case atStart=>exact ⟨0,by omega,rfl,bw0,OwnE.nil _ _ _ _ _⟩
    case round=>
     obtain ⟨j,hj,rfl,b2,O2⟩:=hrel
     clear bw0 x1
     have xq:=(P1.next b2).cell
     have q2':=(b2.cell (p:=⟨b,off + k,none⟩) (block_lt_of_cell q2)).trans q2
     by_cases hltj : j < zs.length
     · obtain ⟨b5,off5,A5,c5,rfl,q5,r5⟩:=val_at (HR.out.below b2) hltj
       have hstepj : zs.take (j + 1) = zs.take j ++ [zs[j]]:=List.take_succ_eq_append_getElem hltj
       have HSTJ:=Lib.hid hstepj
       generalize zs[j] = bs at *
       have HWJ:=next_wrap HZM.out hltj
       have HLJ:=Lib.hid hltj
       have hjl : (zs.take j).length = j:=by rw [List.length_take];omega
       have HBY : Hid ((zs.take j).length + 1 ≤ maxLen ∧ ((zs.take j).length + 1) * 24 ≤ 140737488355328):=by
        have h1:=HZM.out
        have h2:=hzz.out
        show _ ∧ _
        rw [hjl]
        omega
       have HO2:=Lib.hid O2
       have HB2:=Lib.hid b2
       clear hstepj hjl hj q2 O2 b2
       go_wp2_with (first
        | (at_builtin;refine wpList_copyL rfl (.const (.slice none 0 0)) (.tmp 34) 29 rfl 5 iu _ .byte rfl Try.underlying29 hu hu0 hu1 hu2 rfl rfl S bs A5 bs.length c5 rfl r5 ?_;intro v4 w4 r4 b4;obtain ⟨A4,c4,rfl⟩:=bytesV r4;have a4:=Ext.alloc (Below.refl w4.heap.size w4) (.cells #[.slice A4 bs.length c4] 29);have E6:=bytesE_new r4 a4;have b5':=Ext.trans (Ext.trans HB2.out b4) a4;have O3:=HO2.out.next (fun b hb=>hb.2) (Ext.trans b4 a4);have rd6:=rd_row w4 #[.slice A4 bs.length c4] 29;have hlo:=Nat.le_trans b4.size a4.size;have hlo2:=HB2.out.size;clear r4 b4 a4)
        | (at_builtin;refine wpList_pushI rfl (.tmp 26) (.tmp 36) 30 rfl w0.heap.size wr.heap.size 29 ib _ 24 Try.underlying30 hib hb0 hb1 hb2 rfl (by decide) _ (zs.take j) rfl O3 hlo hlo2 _ 1 _ rfl rd6 bs E6 HBY.out.1 HBY.out.2 ?_;intro v7 w7 O7 g7 k7;have b7:=Below.grown b5' g7 b5'.size k7;have O8:=OwnE.cast HSTJ.out.symm O7;clear O3 E6 rd6 O7 g7 k7 b5'))
       go_roundw
       case rel=>exact ⟨j + 1,HLJ.out,by first | exact round_same HWJ | go_num,b7,O8⟩
       case measure=>first | exact round_less HWJ HLJ.out | (have h:=HLJ.out;simp [intOf];omega)
     · have hje : zs.take j = zs:=List.take_of_length_le (by omega)
       rw [hje] at O2
       obtain ⟨Au,cu,rfl⟩:=O2.slice
       have P2:=P1.next b2
       have Z2:=Z1.next b2
       have Q2:=Q1.next b2
       have t2:=Ext.trans t1 b2
       have bb:=Ext.alloc (Below.refl wr.heap.size wr) (.cells #[.slice Au zs.length cu] 30)
       have P3:=P2.alloc (.cells #[.slice Au zs.length cu] 30)
       have Z3:=Z2.alloc (.cells #[.slice Au zs.length cu] 30)
       have Q3:=Q2.alloc (.cells #[.slice Au zs.length cu] 30)
       have t3:=Ext.trans t2 bb
       have O3:=O1.next (fun b hb=>hb.2) (Ext.trans b2 bb)
       have E3 : (listE 29).E (wr.alloc (.cells #[.slice Au zs.length cu] 30)) (Iv w0.heap.size (wr.alloc (.cells #[.slice Au zs.length cu] 30)).heap.size) zs [.slice Au zs.length cu]:=⟨_,w0.heap.size,rfl,O2.step bb,hzz.out⟩
       have rd3:=rd_row wr #[.slice Au zs.length cu] 30
       have hlo : w0.heap.size ≤ (wr.alloc (.cells #[.slice Au zs.length cu] 30)).heap.size:=Nat.le_trans b2.size bb.size
       have hlo2:=HB1.out
       have hkl : (ys.take k).length = k:=by rw [List.length_take];have:=HLK.out;omega
       have HBY : Hid ((ys.take k).length + 1 ≤ maxLen ∧ ((ys.take k).length + 1) * 24 ≤ 140737488355328):=by
        have h1:=HYM.out
        have h2:=hyz.out
        have h3:=HLK.out
        show _ ∧ _
        rw [hkl]
        omega
       have HTL : Hid (∀ (A : Option Addr) (c : Nat),Value.slice A ((ys.take k) ++ [zs]).length c = Value.slice A (k + 1) c):=fun A c=>by
        rw [List.length_append,hkl]
        rfl
       have z3:=Q3.cell
       have z2:=Q2.cell
       have f3:=Q3.free
       clear hkl hje b2 bb P2 Z2 Q2 O1 P1 Z1 Q1 t1 t2 O2
       go_wp2_with (at_builtin;refine wpList_pushI rfl (.tmp 39) (.tmp 41) 25 rfl base w0.heap.size 30 il _ 24 Try.underlying25 hil hl0 hl1 hl2 rfl (by decide) v (ys.take k) rfl O3 hlo hlo2 (some ⟨wr.heap.size,0,none⟩) 1 _ rfl rd3 zs E3 HBY.out.1 HBY.out.2 ?_;intro v7 w7 O7 g7 k7;obtain ⟨A10,c10,e10⟩:=O7.slice;have e11:=e10.trans (HTL.out A10 c10);subst e11;have hb3:=HBS.out.1;have P7:=P3.grown g7 (fun e=>by have:=k7 _ e;omega);have Z7:=Z3.grown g7 (fun e=>by have:=k7 _ e;omega);have Q7:=Q3.grown g7 (fun e=>by have:=k7 _ e;omega);have t7:=Below.grown t3 g7 t3.size (fun r e=>by have:=k7 r e;omega);have O8:=OwnE.cast HSTK.out.symm O7;have HN7:=Lib.hid (Nat.le_trans hlo2 (Nat.le_trans hlo g7.size));have y7:=Q7.cell;have f7:=Q7.free;clear z3 z2 f3 P3 Z3 Q3 t3 O3 E3 rd3 g7 k7 O7 e10)
       have Q8 : BoxOf _ (w.heap.size + 1 + 1) #[.slice A10 (k + 1) c10,.slice none 0 0] 28:=mbox_self Q7 0 (.slice A10 (k + 1) c10)
       have P8:=mbox_else P7 (show w.heap.size ≠ w.heap.size + 1 + 1 by omega) 0 (.slice A10 (k + 1) c10)
       have Z8:=mbox_else Z7 (show w.heap.size + 1 ≠ w.heap.size + 1 + 1 by omega) 0 (.slice A10 (k + 1) c10)
       have O9:=OwnE.setElse (k:=w.heap.size + 1 + 1) O8 (fun h=>by have:=h.1;omega) 0 (.slice A10 (k + 1) c10)
       have t8:=Below.setCell (p:=⟨w.heap.size + 1 + 1,0,none⟩) t7 (show w.heap.size ≤ w.heap.size + 1 + 1 by omega) (.slice A10 (k + 1) c10)
       go_roundw
       case rel=>exact ⟨k + 1,_,HLK.out,by first | exact round_same HWK | go_num,t8,P8,Z8,Q8,(by rw [msize];exact O9),(show Hid (base ≤ _) from by show base ≤ _;rw [msize];exact HN7.out)⟩
       case measure=>first | exact round_less HWK HLK.out | (have h:=HLK.out;simp [intOf];omega)
  · have hke : ys.take k = ys:=List.take_of_length_le (by omega)
    rw [hke] at O1
    obtain ⟨Ay,cy,rfl⟩:=O1.slice
    obtain ⟨m,hm⟩ : ∃ z : Nat,z = wr.heap.size:=⟨_,rfl⟩
    have O2 : OwnE (listE 29) wr (Iv base m) base 30 (.slice Ay ys.length cy) ys:=by rw [hm];exact O1
    have hm1 : m ≤ wr.heap.size:=by omega
    have hbm : base ≤ m:=by have:=HB1.out;omega
    have hwm : w.heap.size + 3 ≤ m:=by have:=HBS.out.1;omega
    have HM:=Lib.hid (And.intro hm1 (And.intro hbm hwm))
    clear hke O1 hm hm1 hbm HB1 hwm
    have wr0:=HM.out.1
    go_wp2
    clear x1 hk hlt
    go_loopw [7] (fun i wr=>∃ (j : Nat) (u : Value),j ≤ gs.length ∧ i = .int .i64 j ∧ Below w.heap.size w wr ∧ BoxOf wr w.heap.size #[.slice A ys.length c,.slice B gs.length d] 28 ∧ BoxOf wr (w.heap.size + 1) #[.slice none 0 0,.slice none 0 0] 28 ∧ BoxOf wr (w.heap.size + 1 + 1) #[.slice Ay ys.length cy,u] 28 ∧ OwnE (listE 29) wr (Iv base m) base 30 (.slice Ay ys.length cy) ys ∧ OwnE (goE 3) wr (Iv m wr.heap.size) m 64 u (gs.take j) ∧ Hid (m ≤ wr.heap.size)) (fun i _=>gs.length - (intOf i).toNat)
    case atStart=>exact ⟨0,.slice none 0 0,by omega,rfl,t1,P1,Z1,Q1,O2,OwnE.nil _ _ _ _ _,wr0⟩
    case round=>
     clear t1 P1 Z1 Q1 O2 wr0
     obtain ⟨j,u,hj,rfl,t2,P2,Z2,Q2,OY2,OG2,HN2⟩:=hrel
     have hm9:=HM.out.2.2
     have hb9:=HBS.out.1
     have x2:=P2.cell
     by_cases hlt : j < gs.length
     · obtain ⟨b,off,Ab,cb,Am,cm,rfl,q0,q1,q2,q3,q4,q5,i0,i1,i2,Rb,Rm⟩:=go_at (HG.out.below t2) hlt
       have hgm : gs[j] = (nuOf gs[j],(kiOf gs[j],atOf gs[j],manyOf gs[j],datOf gs[j],()),mksOf gs[j],()):=rfl
       have HGE:=Lib.hid hgm
       have HST:=Lib.hid (show gs.take (j + 1) = gs.take j ++ [gs[j]] from List.take_succ_eq_append_getElem hlt)
       have hgl : (gs.take j).length = j:=by rw [List.length_take];omega
       have HBY : Hid ((gs.take j).length + 1 ≤ maxLen ∧ ((gs.take j).length + 1) * 80 ≤ 140737488355328):=by
        have h1:=HGM.out
        have h2:=hgz.out
        show _ ∧ _
        rw [hgl]
        omega
       have HTL : Hid (∀ (A : Option Addr) (c : Nat),Value.slice A ((gs.take j) ++ [gs[j]]).length c = Value.slice A (j + 1) c):=fun A c=>by
        rw [List.length_append,hgl]
        rfl
       generalize gs[j] = g at *
       have HWJ:=next_wrap HGM.out hlt
       have HLT:=Lib.hid hlt
       have HI:=Lib.hid (And.intro i0 (And.intro i1 i2))
       have HMA:=Lib.hid (ints_all Rm)
       clear hgm i0 i1 i2 hj hgl
       go_upto_region 15 with fail
       clear q0 q1 q2 q3 q4 q5 x2
       obtain ⟨g8,hg8⟩ : ∃ z : Nat,z = wr.heap.size:=⟨_,rfl⟩
       have G8:=BoxOf.new' wr g8 #[.int .i64 (nuOf g),.int .u8 ((kiOf g).toNat : Int),.int .i64 (atOf g),.int .i64 (manyOf g),.slice Ab (datOf g).length cb,.slice Am (mksOf g).length cm] 64 hg8
       have bb:=Ext.drew (Ext.alloc (Below.refl wr.heap.size wr) (.cells #[.int .i64 (nuOf g),.int .u8 ((kiOf g).toNat : Int),.int .i64 (atOf g),.int .i64 (manyOf g),.slice Ab (datOf g).length cb,.slice Am (mksOf g).length cm] 64))
       have HOG : Hid (∀ r,u.ownBlock = some r → r < g8):=fun r e=>by rw [hg8];exact OwnE.lt OG2 r e
       have l8 : w.heap.size + 1 + 1 < g8:=by rw [hg8];exact Q2.lt
       have HMG : Hid (m ≤ g8):=by show _ ≤ _;rw [hg8];exact HN2.out
       have P3:=P2.next bb
       have Z3:=Z2.next bb
       have Q3:=Q2.next bb
       have OY:=OY2.next (fun b hb=>Nat.lt_of_lt_of_le hb.2 HN2.out) bb
       have OG : OwnE (goE 3) (wr.alloc (.cells #[.int .i64 (nuOf g),.int .u8 ((kiOf g).toNat : Int),.int .i64 (atOf g),.int .i64 (manyOf g),.slice Ab (datOf g).length cb,.slice Am (mksOf g).length cm] 64)).drew (Iv m g8) m 64 u (gs.take j):=by rw [hg8];exact OG2.next (fun b hb=>hb.2) bb
       have t3:=Ext.trans t2 bb
       have n3 : g8 < (wr.alloc (.cells #[.int .i64 (nuOf g),.int .u8 ((kiOf g).toNat : Int),.int .i64 (atOf g),.int .i64 (manyOf g),.slice Ab (datOf g).length cb,.slice Am (mksOf g).length cm] 64)).drew.heap.size:=G8.lt
       have Rb':=Rb.below bb
       have Rm':=Rm.below bb
       rw [← hg8]
       clear P2 Z2 Q2 OY2 OG2 t2 HN2 bb hg8 Rb Rm hlt
       have Rb:=Rb'
       have Rm:=Rm'
       clear Rb' Rm'
       generalize wr.alloc (.cells #[.int .i64 (nuOf g),.int .u8 ((kiOf g).toNat : Int),.int .i64 (atOf g),.int .i64 (manyOf g),.slice Ab (datOf g).length cb,.slice Am (mksOf g).length cm] 64) = W8 at *
       refine wp_region_held_drew (S:=fun w'=>BoxOf w' g8 #[.int .i64 (nuOf g),.int .u8 ((kiOf g).toNat : Int),.int .i64 (atOf g),.int .i64 (manyOf g),.slice Ab (datOf g).length cb,.slice Am (mksOf g).length cm] 64 ∧ ∀ o,w'.cell? ⟨g8,o,none⟩ = (#[.int .i64 (nuOf g),.int .u8 ((kiOf g).toNat : Int),.int .i64 (atOf g),.int .i64 (manyOf g),.slice Ab (datOf g).length cb,.slice Am (mksOf g).length cm] : Array Value).toList[o]?) (by kernel_rfl) ⟨G8.drew,G8.drew.cell⟩ (fun hS=>?_)
       clear G8
       generalize W8.drew = v at *
       refine wpAnyH_take (i:=0) (v:=?_) rfl (by kernel_rfl) (by kernel_rfl) (by kernel_rfl) (fun _ _ _ h=>h) (Or.inl ⟨by rfl,?_⟩) hS ?_
       rotate_left
       · (intro w hSw;(try dsimp only at hSw);go_simp;(try with_reducible rfl))
       rotate_left
       simp only [Act.put,zq0,zq1,zq2,zq3,zq4,zq5]
       refine wpAnyH_take (i:=2) (v:=?_) rfl (by kernel_rfl) (by kernel_rfl) (by kernel_rfl) (fun _ _ _ h=>h) (Or.inl ⟨by rfl,?_⟩) hS ?_
       rotate_left
       · (intro w hSw;(try dsimp only at hSw);go_simp;(try with_reducible rfl))
       rotate_left
       simp only [Act.put,zq0,zq1,zq2,zq3,zq4,zq5]
       refine wpAnyH_take (i:=3) (v:=?_) rfl (by kernel_rfl) (by kernel_rfl) (by kernel_rfl) (fun _ _ _ h=>h) (Or.inl ⟨by rfl,?_⟩) hS ?_
       rotate_left
       · (intro w hSw;(try dsimp only at hSw);go_simp;(try with_reducible rfl))
       rotate_left
       simp only [Act.put,zq0,zq1,zq2,zq3,zq4,zq5]
       refine wpAnyH_take (i:=4) (v:=?_) rfl (by kernel_rfl) (by kernel_rfl) (by kernel_rfl) (fun _ _ _ h=>h) (Or.inl ⟨by rfl,?_⟩) hS ?_
       rotate_left
       · (intro w hSw;(try dsimp only at hSw);go_simp;(try with_reducible rfl))
       rotate_left
       simp only [Act.put,zq0,zq1,zq2,zq3,zq4,zq5]
       refine wpAnyH_take (i:=5) (v:=?_) rfl (by kernel_rfl) (by kernel_rfl) (by kernel_rfl) (fun _ _ _ h=>h) (Or.inl ⟨by rfl,?_⟩) hS ?_
       rotate_left
       · (intro w hSw;(try dsimp only at hSw);go_simp;(try with_reducible rfl))
       rotate_left
       simp only [Act.put,zq0,zq1,zq2,zq3,zq4,zq5]
       refine wpAnyH_take (i:=7) (v:=?_) rfl (by kernel_rfl) (by kernel_rfl) (by kernel_rfl) (fun _ _ _ h=>h) (Or.inl ⟨by rfl,?_⟩) hS ?_
       rotate_left
       · (intro w hSw;(try dsimp only at hSw);go_simp;(try with_reducible rfl))
       rotate_left
       simp only [Act.put,zq0,zq1,zq2,zq3,zq4,zq5]
       refine wpAnyH_take (i:=8) (v:=?_) rfl (by kernel_rfl) (by kernel_rfl) (by kernel_rfl) (fun _ _ _ h=>h) (Or.inl ⟨by rfl,?_⟩) hS ?_
       rotate_left
       · (intro w hSw;(try dsimp only at hSw);go_simp;(try with_reducible rfl))
       rotate_left
       simp only [Act.put,zq0,zq1,zq2,zq3,zq4,zq5]
       refine wpAnyH_ready (rs:=[1,6]) (by kernel_rfl) (by simp) ?_
       refine AllReadyH.cons rfl (fun K hK=>?_) (AllReadyH.cons rfl (fun K hK=>?_) AllReadyH.nil)
       · rw [if_pos (by rfl)]
         have yQ:=Q3.cell
         go_simp
         refine hK.out _ _ hS (fun hS'=>?_)
         clear yQ
         clear hK K hS
         have hS:=hS'
         clear hS'
         try simp only [Act.put,zq0,zq1,zq2,zq3,zq4,zq5]
         refine wpAnyH_ready (rs:=[6]) (by kernel_rfl) (by simp) ?_
         refine AllReadyH.cons rfl (fun K hK=>?_) AllReadyH.nil
         rw [if_pos (by rfl)]
         go_simp
         refine (rasktwin_any S (kiOf g) (atOf g) (manyOf g) (datOf g) Ab cb _ Rb).mono ?_
         rintro e v1 ⟨A6,c6,rfl,r6,bb⟩
         have D6 : RdIn v1 (fun b=>Iv (g8 + 1) v1.heap.size b ∧ Live v1 b) (.sl .byte) (datOf g) [.slice A6 (datOf g).length c6]:=r6.mono fun b hb=>⟨⟨by have:=hb.1;have:=n3;omega,hb.2.1⟩,hb.2.2⟩
         have Rm':=Rm.below bb
         clear Rm Rb r6
         have Rm:=Rm'
         clear Rm'
         have P4:=P3.next bb
         have Z4:=Z3.next bb
         have Q4:=Q3.next bb
         have OY4:=OY.next (fun b hb=>by have:=hb.2;have:=HMG.out;omega) bb
         have OG4:=OG.next (fun b hb=>by have:=hb.2;omega) bb
         have t4:=Ext.trans t3 bb
         have n4:=Nat.lt_of_lt_of_le n3 bb.size
         refine hK.out _ _ ⟨hS.1.next bb,(hS.1.next bb).cell⟩ (fun hS'=>?_)
         clear P3 Z3 Q3 OY OG t3 n3
         have P3:=P4
         have Z3:=Z4
         have Q3:=Q4
         have OY:=OY4
         have OG:=OG4
         have t3:=t4
         have n3:=n4
         clear P4 Z4 Q4 OY4 OG4 t4 n4
         clear bb
         clear hK K hS
         have hS:=hS'
         clear hS'
         try simp only [Act.put,zq0,zq1,zq2,zq3,zq4,zq5]
         refine wpAnyH_ready (rs:=[9]) (by kernel_rfl) (by simp) ?_
         refine AllReadyH.cons rfl (fun K hK=>?_) AllReadyH.nil
         rw [if_pos (by rfl)]
         refine wp_append_rd _ (.const (.slice none 0 0)) (.tmp 64) 62 rfl v1.heap.size 3 ii _ 1 8 Try.underlying62 hii hi0 hi1 hi2 rfl (by decide) (.slice none 0 0) 0 [] rfl ⟨rfl,.inl ⟨rfl,rfl⟩⟩ Am (mksOf g).length cm ((mksOf g).map fun x=>Value.int .i64 x) rfl (by rw [List.length_map,Nat.mul_one]) (ints_rd Rm).2 (by intro z hz;obtain ⟨x,_,rfl⟩:=List.mem_map.1 hz;rfl) (by rw [Nat.zero_add];exact mark_max Rm) (by rw [Nat.zero_add];exact (ints_all Rm).2) (Nat.le_refl _) ?_
         intro v2 w2 own9 g9 _
         have bb:=Ext.grown (Below.refl _ _) g9 (by simp [Value.ownBlock])
         have own9' : w2.ownsRow v1.heap.size 3 1 v2 (mksOf g).length ((mksOf g).map fun x=>Value.int .i64 x):=by rw [Nat.zero_add,List.nil_append] at own9;exact own9
         have M9 : MarksO w2 (Iv (g8 + 1) w2.heap.size) 3 v2 (mksOf g):=(marksO_own own9').mono fun b hb=>⟨by have:=hb.1;have:=n3;omega,hb.2⟩
         have hne : ∀ b,b < v1.heap.size → mksOf g = [] ∨ v2.ownBlock ≠ some b:=fun b hb=>.inr fun e=>by have:=own_block own9' e;omega
         obtain ⟨A9,c9,rfl⟩:=M9.slice
         have D9:=(D6.below bb).mono (S':=fun b=>(Iv (g8 + 1) w2.heap.size b ∧ Live w2 b) ∧ (mksOf g = [] ∨ (Value.slice A9 (mksOf g).length c9).ownBlock ≠ some b)) (fun b hb=>⟨⟨⟨hb.1.1,Nat.lt_of_lt_of_le hb.1.2 bb.size⟩,hb.2.below bb⟩,hne b hb.1.2⟩)
         clear D6 Rm own9 own9' g9 hne
         have P4:=P3.next bb
         have Z4:=Z3.next bb
         have Q4:=Q3.next bb
         have OY4:=OY.next (fun b hb=>by have:=hb.2;have:=HMG.out;omega) bb
         have OG4:=OG.next (fun b hb=>by have:=hb.2;omega) bb
         have t4:=Ext.trans t3 bb
         have n4:=Nat.lt_of_lt_of_le n3 bb.size
         refine hK.out _ _ ⟨hS.1.next bb,(hS.1.next bb).cell⟩ (fun hS'=>?_)
         clear P3 Z3 Q3 OY OG t3 n3
         have P3:=P4
         have Z3:=Z4
         have Q3:=Q4
         have OY:=OY4
         have OG:=OG4
         have t3:=t4
         have n3:=n4
         clear P4 Z4 Q4 OY4 OG4 t4 n4
         clear bb
         clear hK K hS
         have hS:=hS'
         clear hS'
         try simp only [Act.put,zq0,zq1,zq2,zq3,zq4,zq5]
         refine wpAnyH_take (i:=10) (v:=?_) rfl (by kernel_rfl) (by kernel_rfl) (by kernel_rfl) (fun _ _ _ h=>h) (Or.inl ⟨by rfl,?_⟩) hS ?_
         rotate_left
         · (intro w hSw;(try dsimp only at hSw);go_simp;(try with_reducible rfl))
         rotate_left
         simp only [Act.put,zq0,zq1,zq2,zq3,zq4,zq5]
         refine wpAnyH_ready (rs:=[11]) (by kernel_rfl) (by simp) ?_
         refine AllReadyH.cons rfl (fun K hK=>?_) AllReadyH.nil
         rw [if_pos (by rfl)]
         go_simp
         obtain ⟨a11,ha11⟩ : ∃ z : Nat,z = w2.heap.size:=⟨_,rfl⟩
         have rd11:=rd_row w2 #[.int .i64 (nuOf g),.int .u8 ((kiOf g).toNat : Int),.int .i64 (atOf g),.int .i64 (manyOf g),.slice A6 (datOf g).length c6,.slice A9 (mksOf g).length c9] 64
         have bb:=Ext.alloc (Below.refl w2.heap.size w2) (.cells #[.int .i64 (nuOf g),.int .u8 ((kiOf g).toNat : Int),.int .i64 (atOf g),.int .i64 (manyOf g),.slice A6 (datOf g).length c6,.slice A9 (mksOf g).length c9] 64)
         have E11 : (goE 3).E (w2.alloc (.cells #[.int .i64 (nuOf g),.int .u8 ((kiOf g).toNat : Int),.int .i64 (atOf g),.int .i64 (manyOf g),.slice A6 (datOf g).length c6,.slice A9 (mksOf g).length c9] 64)) (Iv g8 (w2.alloc (.cells #[.int .i64 (nuOf g),.int .u8 ((kiOf g).toNat : Int),.int .i64 (atOf g),.int .i64 (manyOf g),.slice A6 (datOf g).length c6,.slice A9 (mksOf g).length c9] 64)).heap.size) g [.int .i64 (nuOf g),.int .u8 ((kiOf g).toNat : Int),.int .i64 (atOf g),.int .i64 (manyOf g),.slice A6 (datOf g).length c6,.slice A9 (mksOf g).length c9]:=
          ⟨nuOf g,kiOf g,atOf g,manyOf g,datOf g,mksOf g,_,_,HGE.out,rfl,HI.out,HMA.out.1,HMA.out.2,
            (D9.below bb).mono (fun b hb=>⟨⟨⟨by have:=hb.1.1.1;omega,Nat.lt_of_lt_of_le hb.1.1.2 bb.size⟩,hb.1.2.below bb⟩,hb.2⟩),(M9.frame fun b hb=>bb.block b hb.2).mono fun b hb=>⟨by have:=hb.1;omega,Nat.lt_of_lt_of_le hb.2 bb.size⟩⟩
         clear D9 M9
         rw [← ha11] at rd11
         have P4:=P3.next bb
         have Z4:=Z3.next bb
         have Q4:=Q3.next bb
         have OY4:=OY.next (fun b hb=>by have:=hb.2;have:=HMG.out;omega) bb
         have OG4:=OG.next (fun b hb=>by have:=hb.2;omega) bb
         have t4:=Ext.trans t3 bb
         have n4:=Nat.lt_of_lt_of_le n3 bb.size
         refine hK.out _ _ ⟨hS.1.next bb,(hS.1.next bb).cell⟩ (fun hS'=>?_)
         clear P3 Z3 Q3 OY OG t3 n3
         have P3:=P4
         have Z3:=Z4
         have Q3:=Q4
         have OY:=OY4
         have OG:=OG4
         have t3:=t4
         have n3:=n4
         clear P4 Z4 Q4 OY4 OG4 t4 n4
         clear bb
         rw [← ha11]
         clear ha11
         clear hK K hS
         have hS:=hS'
         clear hS'
         try simp only [Act.put,zq0,zq1,zq2,zq3,zq4,zq5]
         generalize w2.alloc (.cells #[.int .i64 (nuOf g),.int .u8 ((kiOf g).toNat : Int),.int .i64 (atOf g),.int .i64 (manyOf g),.slice A6 (datOf g).length c6,.slice A9 (mksOf g).length c9] 64) = w5 at *
         refine wpAnyH_ready (rs:=[12]) (by kernel_rfl) (by simp) ?_
         refine AllReadyH.cons rfl (fun K hK=>?_) AllReadyH.nil
         rw [if_pos (by rfl)]
         refine wp_pushI (.tmp 57) (.tmp 67) 26 rfl m g8 64 ig _ 80 Try.underlying26 hig hg0 hg1 hg2 rfl (by decide) u (gs.take j) rfl OG (Nat.le_of_lt n3) HMG.out (some ⟨a11,0,none⟩) 1 _ rfl rd11 g E11 HBY.out.1 HBY.out.2 ?_
         intro v6 w6 O6 g6 k6
         have l3:=HM.out
         have P4:=P3.grown g6 (fun e=>by have:=k6 _ e;omega)
         have Z4:=Z3.grown g6 (fun e=>by have:=k6 _ e;omega)
         have Q4:=Q3.grown g6 (fun e=>by have:=k6 _ e;omega)
         have OY4:=OY.frame (fun b hb=>g6.block b (by have:=hb.2;have:=HMG.out;omega) (fun e=>by have:=k6 _ e.symm;have:=hb.2;omega))
         have t4:=Below.grown t3 g6 t3.size (fun r e=>by have:=k6 r e;omega)
         have n4:=Nat.lt_of_lt_of_le n3 g6.size
         have G4:=hS.1.grown g6 (fun e=>by have:=HOG.out _ e;omega)
         refine hK.out _ _ ⟨G4,G4.cell⟩ (fun hS'=>?_)
         clear P3 Z3 Q3 OY OG t3 n3 k6 g6 E11 rd11
         clear hK K hS
         have hS:=hS'
         clear hS'
         try simp only [Act.put,zq0,zq1,zq2,zq3,zq4,zq5]
         obtain ⟨A10,c10,e10⟩:=O6.slice
         have e11:=e10.trans (HTL.out A10 c10)
         clear e10
         subst e11
         refine wpAnyH_take (i:=13) (v:=?_) rfl (by kernel_rfl) (by kernel_rfl) (by kernel_rfl) (fun _ _ _ h=>h) (Or.inl ⟨by rfl,?_⟩) hS ?_
         rotate_left
         · (intro w hSw;(try dsimp only at hSw);go_simp;(try with_reducible rfl))
         rotate_left
         simp only [Act.put,zq0,zq1,zq2,zq3,zq4,zq5]
         refine wpAnyH_ready (rs:=[14]) (by kernel_rfl) (by simp) ?_
         refine AllReadyH.cons rfl (fun K hK=>?_) AllReadyH.nil
         rw [if_pos (by rfl)]
         have fQ:=Q4.free
         have yQ:=Q4.cell
         go_simp
         clear fQ yQ
         have Q5 : BoxOf _ (w.heap.size + 1 + 1) #[.slice Ay ys.length cy,.slice A10 (j + 1) c10] 28:=mbox_self Q4 1 (.slice A10 (j + 1) c10)
         have P5:=mbox_else P4 (show w.heap.size ≠ w.heap.size + 1 + 1 by omega) 1 (.slice A10 (j + 1) c10)
         have Z5:=mbox_else Z4 (show w.heap.size + 1 ≠ w.heap.size + 1 + 1 by omega) 1 (.slice A10 (j + 1) c10)
         have G5:=mbox_else G4 (show g8 ≠ w.heap.size + 1 + 1 by omega) 1 (.slice A10 (j + 1) c10)
         have OY5:=OwnE.setElse (k:=w.heap.size + 1 + 1) OY4 (fun h=>by have:=h.1;omega) 1 (.slice A10 (j + 1) c10)
         have OG5:=OwnE.setElse (k:=w.heap.size + 1 + 1) (OwnE.cast HST.out.symm O6) (fun h=>by have:=h.1;omega) 1 (.slice A10 (j + 1) c10)
         have t5:=Below.setCell (p:=⟨w.heap.size + 1 + 1,1,none⟩) t4 (show w.heap.size ≤ w.heap.size + 1 + 1 by omega) (.slice A10 (j + 1) c10)
         refine hK.out _ _ ⟨G5,G5.cell⟩ (fun hS'=>?_)
         clear hK K hS hS' P4 Z4 Q4 OY4 O6 t4 G4 G5
         try simp only [Act.put,zq0,zq1,zq2,zq3,zq4,zq5]
         refine wpAnyH_done (by kernel_rfl) ?_ _
         have HN4 : Hid (m ≤ w6.heap.size):=by have:=HMG.out;show _ ≤ _;omega
         have LJ:=HLT.out
         clear l3 n4 l8
         go_wp2
         go_roundw
         case rel=>exact ⟨j + 1,_,LJ,(by first | exact round_same HWJ | go_num),t5,P5,Z5,Q5,OY5,(by rw [msize];exact OG5),(show Hid (m ≤ _) from by show m ≤ _;rw [msize];exact HN4.out)⟩
         case measure=>first | exact round_less HWJ LJ | (have h:=LJ;simp [intOf];omega)
       · rw [if_pos (by rfl)]
         go_simp
         refine (rasktwin_any S (kiOf g) (atOf g) (manyOf g) (datOf g) Ab cb _ Rb).mono ?_
         rintro e v1 ⟨A6,c6,rfl,r6,bb⟩
         have D6 : RdIn v1 (fun b=>Iv (g8 + 1) v1.heap.size b ∧ Live v1 b) (.sl .byte) (datOf g) [.slice A6 (datOf g).length c6]:=r6.mono fun b hb=>⟨⟨by have:=hb.1;have:=n3;omega,hb.2.1⟩,hb.2.2⟩
         have Rm':=Rm.below bb
         clear Rm Rb r6
         have Rm:=Rm'
         clear Rm'
         have P4:=P3.next bb
         have Z4:=Z3.next bb
         have Q4:=Q3.next bb
         have OY4:=OY.next (fun b hb=>by have:=hb.2;have:=HMG.out;omega) bb
         have OG4:=OG.next (fun b hb=>by have:=hb.2;omega) bb
         have t4:=Ext.trans t3 bb
         have n4:=Nat.lt_of_lt_of_le n3 bb.size
         refine hK.out _ _ ⟨hS.1.next bb,(hS.1.next bb).cell⟩ (fun hS'=>?_)
         clear P3 Z3 Q3 OY OG t3 n3
         have P3:=P4
         have Z3:=Z4
         have Q3:=Q4
         have OY:=OY4
         have OG:=OG4
         have t3:=t4
         have n3:=n4
         clear P4 Z4 Q4 OY4 OG4 t4 n4
         clear bb
         clear hK K hS
         have hS:=hS'
         clear hS'
         try simp only [Act.put,zq0,zq1,zq2,zq3,zq4,zq5]
         refine wpAnyH_ready (rs:=[1,9]) (by kernel_rfl) (by simp) ?_
         refine AllReadyH.cons rfl (fun K hK=>?_) (AllReadyH.cons rfl (fun K hK=>?_) AllReadyH.nil)
         · rw [if_pos (by rfl)]
           have yQ:=Q3.cell
           go_simp
           refine hK.out _ _ hS (fun hS'=>?_)
           clear yQ
           clear hK K hS
           have hS:=hS'
           clear hS'
           try simp only [Act.put,zq0,zq1,zq2,zq3,zq4,zq5]
           refine wpAnyH_ready (rs:=[9]) (by kernel_rfl) (by simp) ?_
           refine AllReadyH.cons rfl (fun K hK=>?_) AllReadyH.nil
           rw [if_pos (by rfl)]
           refine wp_append_rd _ (.const (.slice none 0 0)) (.tmp 64) 62 rfl v1.heap.size 3 ii _ 1 8 Try.underlying62 hii hi0 hi1 hi2 rfl (by decide) (.slice none 0 0) 0 [] rfl ⟨rfl,.inl ⟨rfl,rfl⟩⟩ Am (mksOf g).length cm ((mksOf g).map fun x=>Value.int .i64 x) rfl (by rw [List.length_map,Nat.mul_one]) (ints_rd Rm).2 (by intro z hz;obtain ⟨x,_,rfl⟩:=List.mem_map.1 hz;rfl) (by rw [Nat.zero_add];exact mark_max Rm) (by rw [Nat.zero_add];exact (ints_all Rm).2) (Nat.le_refl _) ?_
           intro v2 w2 own9 g9 _
           have bb:=Ext.grown (Below.refl _ _) g9 (by simp [Value.ownBlock])
           have own9' : w2.ownsRow v1.heap.size 3 1 v2 (mksOf g).length ((mksOf g).map fun x=>Value.int .i64 x):=by rw [Nat.zero_add,List.nil_append] at own9;exact own9
           have M9 : MarksO w2 (Iv (g8 + 1) w2.heap.size) 3 v2 (mksOf g):=(marksO_own own9').mono fun b hb=>⟨by have:=hb.1;have:=n3;omega,hb.2⟩
           have hne : ∀ b,b < v1.heap.size → mksOf g = [] ∨ v2.ownBlock ≠ some b:=fun b hb=>.inr fun e=>by have:=own_block own9' e;omega
           obtain ⟨A9,c9,rfl⟩:=M9.slice
           have D9:=(D6.below bb).mono (S':=fun b=>(Iv (g8 + 1) w2.heap.size b ∧ Live w2 b) ∧ (mksOf g = [] ∨ (Value.slice A9 (mksOf g).length c9).ownBlock ≠ some b)) (fun b hb=>⟨⟨⟨hb.1.1,Nat.lt_of_lt_of_le hb.1.2 bb.size⟩,hb.2.below bb⟩,hne b hb.1.2⟩)
           clear D6 Rm own9 own9' g9 hne
           have P4:=P3.next bb
           have Z4:=Z3.next bb
           have Q4:=Q3.next bb
           have OY4:=OY.next (fun b hb=>by have:=hb.2;have:=HMG.out;omega) bb
           have OG4:=OG.next (fun b hb=>by have:=hb.2;omega) bb
           have t4:=Ext.trans t3 bb
           have n4:=Nat.lt_of_lt_of_le n3 bb.size
           refine hK.out _ _ ⟨hS.1.next bb,(hS.1.next bb).cell⟩ (fun hS'=>?_)
           clear P3 Z3 Q3 OY OG t3 n3
           have P3:=P4
           have Z3:=Z4
           have Q3:=Q4
           have OY:=OY4
           have OG:=OG4
           have t3:=t4
           have n3:=n4
           clear P4 Z4 Q4 OY4 OG4 t4 n4
           clear bb
           clear hK K hS
           have hS:=hS'
           clear hS'
           try simp only [Act.put,zq0,zq1,zq2,zq3,zq4,zq5]
           refine wpAnyH_take (i:=10) (v:=?_) rfl (by kernel_rfl) (by kernel_rfl) (by kernel_rfl) (fun _ _ _ h=>h) (Or.inl ⟨by rfl,?_⟩) hS ?_
           rotate_left
           · (intro w hSw;(try dsimp only at hSw);go_simp;(try with_reducible rfl))
           rotate_left
           simp only [Act.put,zq0,zq1,zq2,zq3,zq4,zq5]
           refine wpAnyH_ready (rs:=[11]) (by kernel_rfl) (by simp) ?_
           refine AllReadyH.cons rfl (fun K hK=>?_) AllReadyH.nil
           rw [if_pos (by rfl)]
           go_simp
           obtain ⟨a11,ha11⟩ : ∃ z : Nat,z = w2.heap.size:=⟨_,rfl⟩
           have rd11:=rd_row w2 #[.int .i64 (nuOf g),.int .u8 ((kiOf g).toNat : Int),.int .i64 (atOf g),.int .i64 (manyOf g),.slice A6 (datOf g).length c6,.slice A9 (mksOf g).length c9] 64
           have bb:=Ext.alloc (Below.refl w2.heap.size w2) (.cells #[.int .i64 (nuOf g),.int .u8 ((kiOf g).toNat : Int),.int .i64 (atOf g),.int .i64 (manyOf g),.slice A6 (datOf g).length c6,.slice A9 (mksOf g).length c9] 64)
           have E11 : (goE 3).E (w2.alloc (.cells #[.int .i64 (nuOf g),.int .u8 ((kiOf g).toNat : Int),.int .i64 (atOf g),.int .i64 (manyOf g),.slice A6 (datOf g).length c6,.slice A9 (mksOf g).length c9] 64)) (Iv g8 (w2.alloc (.cells #[.int .i64 (nuOf g),.int .u8 ((kiOf g).toNat : Int),.int .i64 (atOf g),.int .i64 (manyOf g),.slice A6 (datOf g).length c6,.slice A9 (mksOf g).length c9] 64)).heap.size) g [.int .i64 (nuOf g),.int .u8 ((kiOf g).toNat : Int),.int .i64 (atOf g),.int .i64 (manyOf g),.slice A6 (datOf g).length c6,.slice A9 (mksOf g).length c9]:=
            ⟨nuOf g,kiOf g,atOf g,manyOf g,datOf g,mksOf g,_,_,HGE.out,rfl,HI.out,HMA.out.1,HMA.out.2,
               (D9.below bb).mono (fun b hb=>⟨⟨⟨by have:=hb.1.1.1;omega,Nat.lt_of_lt_of_le hb.1.1.2 bb.size⟩,hb.1.2.below bb⟩,hb.2⟩),(M9.frame fun b hb=>bb.block b hb.2).mono fun b hb=>⟨by have:=hb.1;omega,Nat.lt_of_lt_of_le hb.2 bb.size⟩⟩
           clear D9 M9
           rw [← ha11] at rd11
           have P4:=P3.next bb
           have Z4:=Z3.next bb
           have Q4:=Q3.next bb
           have OY4:=OY.next (fun b hb=>by have:=hb.2;have:=HMG.out;omega) bb
           have OG4:=OG.next (fun b hb=>by have:=hb.2;omega) bb
           have t4:=Ext.trans t3 bb
           have n4:=Nat.lt_of_lt_of_le n3 bb.size
           refine hK.out _ _ ⟨hS.1.next bb,(hS.1.next bb).cell⟩ (fun hS'=>?_)
           clear P3 Z3 Q3 OY OG t3 n3
           have P3:=P4
           have Z3:=Z4
           have Q3:=Q4
           have OY:=OY4
           have OG:=OG4
           have t3:=t4
           have n3:=n4
           clear P4 Z4 Q4 OY4 OG4 t4 n4
           clear bb
           rw [← ha11]
           clear ha11
           clear hK K hS
           have hS:=hS'
           clear hS'
           try simp only [Act.put,zq0,zq1,zq2,zq3,zq4,zq5]
           generalize w2.alloc (.cells #[.int .i64 (nuOf g),.int .u8 ((kiOf g).toNat : Int),.int .i64 (atOf g),.int .i64 (manyOf g),.slice A6 (datOf g).length c6,.slice A9 (mksOf g).length c9] 64) = w5 at *
           refine wpAnyH_ready (rs:=[12]) (by kernel_rfl) (by simp) ?_
           refine AllReadyH.cons rfl (fun K hK=>?_) AllReadyH.nil
           rw [if_pos (by rfl)]
           refine wp_pushI (.tmp 57) (.tmp 67) 26 rfl m g8 64 ig _ 80 Try.underlying26 hig hg0 hg1 hg2 rfl (by decide) u (gs.take j) rfl OG (Nat.le_of_lt n3) HMG.out (some ⟨a11,0,none⟩) 1 _ rfl rd11 g E11 HBY.out.1 HBY.out.2 ?_
           intro v6 w6 O6 g6 k6
           have l3:=HM.out
           have P4:=P3.grown g6 (fun e=>by have:=k6 _ e;omega)
           have Z4:=Z3.grown g6 (fun e=>by have:=k6 _ e;omega)
           have Q4:=Q3.grown g6 (fun e=>by have:=k6 _ e;omega)
           have OY4:=OY.frame (fun b hb=>g6.block b (by have:=hb.2;have:=HMG.out;omega) (fun e=>by have:=k6 _ e.symm;have:=hb.2;omega))
           have t4:=Below.grown t3 g6 t3.size (fun r e=>by have:=k6 r e;omega)
           have n4:=Nat.lt_of_lt_of_le n3 g6.size
           have G4:=hS.1.grown g6 (fun e=>by have:=HOG.out _ e;omega)
           refine hK.out _ _ ⟨G4,G4.cell⟩ (fun hS'=>?_)
           clear P3 Z3 Q3 OY OG t3 n3 k6 g6 E11 rd11
           clear hK K hS
           have hS:=hS'
           clear hS'
           try simp only [Act.put,zq0,zq1,zq2,zq3,zq4,zq5]
           obtain ⟨A10,c10,e10⟩:=O6.slice
           have e11:=e10.trans (HTL.out A10 c10)
           clear e10
           subst e11
           refine wpAnyH_take (i:=13) (v:=?_) rfl (by kernel_rfl) (by kernel_rfl) (by kernel_rfl) (fun _ _ _ h=>h) (Or.inl ⟨by rfl,?_⟩) hS ?_
           rotate_left
           · (intro w hSw;(try dsimp only at hSw);go_simp;(try with_reducible rfl))
           rotate_left
           simp only [Act.put,zq0,zq1,zq2,zq3,zq4,zq5]
           refine wpAnyH_ready (rs:=[14]) (by kernel_rfl) (by simp) ?_
           refine AllReadyH.cons rfl (fun K hK=>?_) AllReadyH.nil
           rw [if_pos (by rfl)]
           have fQ:=Q4.free
           have yQ:=Q4.cell
           go_simp
           clear fQ yQ
           have Q5 : BoxOf _ (w.heap.size + 1 + 1) #[.slice Ay ys.length cy,.slice A10 (j + 1) c10] 28:=mbox_self Q4 1 (.slice A10 (j + 1) c10)
           have P5:=mbox_else P4 (show w.heap.size ≠ w.heap.size + 1 + 1 by omega) 1 (.slice A10 (j + 1) c10)
           have Z5:=mbox_else Z4 (show w.heap.size + 1 ≠ w.heap.size + 1 + 1 by omega) 1 (.slice A10 (j + 1) c10)
           have G5:=mbox_else G4 (show g8 ≠ w.heap.size + 1 + 1 by omega) 1 (.slice A10 (j + 1) c10)
           have OY5:=OwnE.setElse (k:=w.heap.size + 1 + 1) OY4 (fun h=>by have:=h.1;omega) 1 (.slice A10 (j + 1) c10)
           have OG5:=OwnE.setElse (k:=w.heap.size + 1 + 1) (OwnE.cast HST.out.symm O6) (fun h=>by have:=h.1;omega) 1 (.slice A10 (j + 1) c10)
           have t5:=Below.setCell (p:=⟨w.heap.size + 1 + 1,1,none⟩) t4 (show w.heap.size ≤ w.heap.size + 1 + 1 by omega) (.slice A10 (j + 1) c10)
           refine hK.out _ _ ⟨G5,G5.cell⟩ (fun hS'=>?_)
           clear hK K hS hS' P4 Z4 Q4 OY4 O6 t4 G4 G5
           try simp only [Act.put,zq0,zq1,zq2,zq3,zq4,zq5]
           refine wpAnyH_done (by kernel_rfl) ?_ _
           have HN4 : Hid (m ≤ w6.heap.size):=by have:=HMG.out;show _ ≤ _;omega
           have LJ:=HLT.out
           clear l3 n4 l8
           go_wp2
           go_roundw
           case rel=>exact ⟨j + 1,_,LJ,(by first | exact round_same HWJ | go_num),t5,P5,Z5,Q5,OY5,(by rw [msize];exact OG5),(show Hid (m ≤ _) from by show m ≤ _;rw [msize];exact HN4.out)⟩
           case measure=>first | exact round_less HWJ LJ | (have h:=LJ;simp [intOf];omega)
         · rw [if_pos (by rfl)]
           refine wp_append_rd _ (.const (.slice none 0 0)) (.tmp 64) 62 rfl v1.heap.size 3 ii _ 1 8 Try.underlying62 hii hi0 hi1 hi2 rfl (by decide) (.slice none 0 0) 0 [] rfl ⟨rfl,.inl ⟨rfl,rfl⟩⟩ Am (mksOf g).length cm ((mksOf g).map fun x=>Value.int .i64 x) rfl (by rw [List.length_map,Nat.mul_one]) (ints_rd Rm).2 (by intro z hz;obtain ⟨x,_,rfl⟩:=List.mem_map.1 hz;rfl) (by rw [Nat.zero_add];exact mark_max Rm) (by rw [Nat.zero_add];exact (ints_all Rm).2) (Nat.le_refl _) ?_
           intro v2 w2 own9 g9 _
           have bb:=Ext.grown (Below.refl _ _) g9 (by simp [Value.ownBlock])
           have own9' : w2.ownsRow v1.heap.size 3 1 v2 (mksOf g).length ((mksOf g).map fun x=>Value.int .i64 x):=by rw [Nat.zero_add,List.nil_append] at own9;exact own9
           have M9 : MarksO w2 (Iv (g8 + 1) w2.heap.size) 3 v2 (mksOf g):=(marksO_own own9').mono fun b hb=>⟨by have:=hb.1;have:=n3;omega,hb.2⟩
           have hne : ∀ b,b < v1.heap.size → mksOf g = [] ∨ v2.ownBlock ≠ some b:=fun b hb=>.inr fun e=>by have:=own_block own9' e;omega
           obtain ⟨A9,c9,rfl⟩:=M9.slice
           have D9:=(D6.below bb).mono (S':=fun b=>(Iv (g8 + 1) w2.heap.size b ∧ Live w2 b) ∧ (mksOf g = [] ∨ (Value.slice A9 (mksOf g).length c9).ownBlock ≠ some b)) (fun b hb=>⟨⟨⟨hb.1.1,Nat.lt_of_lt_of_le hb.1.2 bb.size⟩,hb.2.below bb⟩,hne b hb.1.2⟩)
           clear D6 Rm own9 own9' g9 hne
           have P4:=P3.next bb
           have Z4:=Z3.next bb
           have Q4:=Q3.next bb
           have OY4:=OY.next (fun b hb=>by have:=hb.2;have:=HMG.out;omega) bb
           have OG4:=OG.next (fun b hb=>by have:=hb.2;omega) bb
           have t4:=Ext.trans t3 bb
           have n4:=Nat.lt_of_lt_of_le n3 bb.size
           refine hK.out _ _ ⟨hS.1.next bb,(hS.1.next bb).cell⟩ (fun hS'=>?_)
           clear P3 Z3 Q3 OY OG t3 n3
           have P3:=P4
           have Z3:=Z4
           have Q3:=Q4
           have OY:=OY4
           have OG:=OG4
           have t3:=t4
           have n3:=n4
           clear P4 Z4 Q4 OY4 OG4 t4 n4
           clear bb
           clear hK K hS
           have hS:=hS'
           clear hS'
           try simp only [Act.put,zq0,zq1,zq2,zq3,zq4,zq5]
           refine wpAnyH_take (i:=10) (v:=?_) rfl (by kernel_rfl) (by kernel_rfl) (by kernel_rfl) (fun _ _ _ h=>h) (Or.inl ⟨by rfl,?_⟩) hS ?_
           rotate_left
           · (intro w hSw;(try dsimp only at hSw);go_simp;(try with_reducible rfl))
           rotate_left
           simp only [Act.put,zq0,zq1,zq2,zq3,zq4,zq5]
           refine wpAnyH_ready (rs:=[1,11]) (by kernel_rfl) (by simp) ?_
           refine AllReadyH.cons rfl (fun K hK=>?_) (AllReadyH.cons rfl (fun K hK=>?_) AllReadyH.nil)
           · rw [if_pos (by rfl)]
             have yQ:=Q3.cell
             go_simp
             refine hK.out _ _ hS (fun hS'=>?_)
             clear yQ
             clear hK K hS
             have hS:=hS'
             clear hS'
             try simp only [Act.put,zq0,zq1,zq2,zq3,zq4,zq5]
             refine wpAnyH_ready (rs:=[11]) (by kernel_rfl) (by simp) ?_
             refine AllReadyH.cons rfl (fun K hK=>?_) AllReadyH.nil
             rw [if_pos (by rfl)]
             go_simp
             obtain ⟨a11,ha11⟩ : ∃ z : Nat,z = w2.heap.size:=⟨_,rfl⟩
             have rd11:=rd_row w2 #[.int .i64 (nuOf g),.int .u8 ((kiOf g).toNat : Int),.int .i64 (atOf g),.int .i64 (manyOf g),.slice A6 (datOf g).length c6,.slice A9 (mksOf g).length c9] 64
             have bb:=Ext.alloc (Below.refl w2.heap.size w2) (.cells #[.int .i64 (nuOf g),.int .u8 ((kiOf g).toNat : Int),.int .i64 (atOf g),.int .i64 (manyOf g),.slice A6 (datOf g).length c6,.slice A9 (mksOf g).length c9] 64)
             have E11 : (goE 3).E (w2.alloc (.cells #[.int .i64 (nuOf g),.int .u8 ((kiOf g).toNat : Int),.int .i64 (atOf g),.int .i64 (manyOf g),.slice A6 (datOf g).length c6,.slice A9 (mksOf g).length c9] 64)) (Iv g8 (w2.alloc (.cells #[.int .i64 (nuOf g),.int .u8 ((kiOf g).toNat : Int),.int .i64 (atOf g),.int .i64 (manyOf g),.slice A6 (datOf g).length c6,.slice A9 (mksOf g).length c9] 64)).heap.size) g [.int .i64 (nuOf g),.int .u8 ((kiOf g).toNat : Int),.int .i64 (atOf g),.int .i64 (manyOf g),.slice A6 (datOf g).length c6,.slice A9 (mksOf g).length c9]:=
               ⟨nuOf g,kiOf g,atOf g,manyOf g,datOf g,mksOf g,_,_,HGE.out,rfl,HI.out,HMA.out.1,HMA.out.2,
                    (D9.below bb).mono (fun b hb=>⟨⟨⟨by have:=hb.1.1.1;omega,Nat.lt_of_lt_of_le hb.1.1.2 bb.size⟩,hb.1.2.below bb⟩,hb.2⟩),(M9.frame fun b hb=>bb.block b hb.2).mono fun b hb=>⟨by have:=hb.1;omega,Nat.lt_of_lt_of_le hb.2 bb.size⟩⟩
             clear D9 M9
             rw [← ha11] at rd11
             have P4:=P3.next bb
             have Z4:=Z3.next bb
             have Q4:=Q3.next bb
             have OY4:=OY.next (fun b hb=>by have:=hb.2;have:=HMG.out;omega) bb
             have OG4:=OG.next (fun b hb=>by have:=hb.2;omega) bb
             have t4:=Ext.trans t3 bb
             have n4:=Nat.lt_of_lt_of_le n3 bb.size
             refine hK.out _ _ ⟨hS.1.next bb,(hS.1.next bb).cell⟩ (fun hS'=>?_)
             clear P3 Z3 Q3 OY OG t3 n3
             have P3:=P4
             have Z3:=Z4
             have Q3:=Q4
             have OY:=OY4
             have OG:=OG4
             have t3:=t4
             have n3:=n4
             clear P4 Z4 Q4 OY4 OG4 t4 n4
             clear bb
             rw [← ha11]
             clear ha11
             clear hK K hS
             have hS:=hS'
             clear hS'
             try simp only [Act.put,zq0,zq1,zq2,zq3,zq4,zq5]
             generalize w2.alloc (.cells #[.int .i64 (nuOf g),.int .u8 ((kiOf g).toNat : Int),.int .i64 (atOf g),.int .i64 (manyOf g),.slice A6 (datOf g).length c6,.slice A9 (mksOf g).length c9] 64) = w5 at *
             refine wpAnyH_ready (rs:=[12]) (by kernel_rfl) (by simp) ?_
             refine AllReadyH.cons rfl (fun K hK=>?_) AllReadyH.nil
             rw [if_pos (by rfl)]
             refine wp_pushI (.tmp 57) (.tmp 67) 26 rfl m g8 64 ig _ 80 Try.underlying26 hig hg0 hg1 hg2 rfl (by decide) u (gs.take j) rfl OG (Nat.le_of_lt n3) HMG.out (some ⟨a11,0,none⟩) 1 _ rfl rd11 g E11 HBY.out.1 HBY.out.2 ?_
             intro v6 w6 O6 g6 k6
             have l3:=HM.out
             have P4:=P3.grown g6 (fun e=>by have:=k6 _ e;omega)
             have Z4:=Z3.grown g6 (fun e=>by have:=k6 _ e;omega)
             have Q4:=Q3.grown g6 (fun e=>by have:=k6 _ e;omega)
             have OY4:=OY.frame (fun b hb=>g6.block b (by have:=hb.2;have:=HMG.out;omega) (fun e=>by have:=k6 _ e.symm;have:=hb.2;omega))
             have t4:=Below.grown t3 g6 t3.size (fun r e=>by have:=k6 r e;omega)
             have n4:=Nat.lt_of_lt_of_le n3 g6.size
             have G4:=hS.1.grown g6 (fun e=>by have:=HOG.out _ e;omega)
             refine hK.out _ _ ⟨G4,G4.cell⟩ (fun hS'=>?_)
             clear P3 Z3 Q3 OY OG t3 n3 k6 g6 E11 rd11
             clear hK K hS
             have hS:=hS'
             clear hS'
             try simp only [Act.put,zq0,zq1,zq2,zq3,zq4,zq5]
             obtain ⟨A10,c10,e10⟩:=O6.slice
             have e11:=e10.trans (HTL.out A10 c10)
             clear e10
             subst e11
             refine wpAnyH_take (i:=13) (v:=?_) rfl (by kernel_rfl) (by kernel_rfl) (by kernel_rfl) (fun _ _ _ h=>h) (Or.inl ⟨by rfl,?_⟩) hS ?_
             rotate_left
             · (intro w hSw;(try dsimp only at hSw);go_simp;(try with_reducible rfl))
             rotate_left
             simp only [Act.put,zq0,zq1,zq2,zq3,zq4,zq5]
             refine wpAnyH_ready (rs:=[14]) (by kernel_rfl) (by simp) ?_
             refine AllReadyH.cons rfl (fun K hK=>?_) AllReadyH.nil
             rw [if_pos (by rfl)]
             have fQ:=Q4.free
             have yQ:=Q4.cell
             go_simp
             clear fQ yQ
             have Q5 : BoxOf _ (w.heap.size + 1 + 1) #[.slice Ay ys.length cy,.slice A10 (j + 1) c10] 28:=mbox_self Q4 1 (.slice A10 (j + 1) c10)
             have P5:=mbox_else P4 (show w.heap.size ≠ w.heap.size + 1 + 1 by omega) 1 (.slice A10 (j + 1) c10)
             have Z5:=mbox_else Z4 (show w.heap.size + 1 ≠ w.heap.size + 1 + 1 by omega) 1 (.slice A10 (j + 1) c10)
             have G5:=mbox_else G4 (show g8 ≠ w.heap.size + 1 + 1 by omega) 1 (.slice A10 (j + 1) c10)
             have OY5:=OwnE.setElse (k:=w.heap.size + 1 + 1) OY4 (fun h=>by have:=h.1;omega) 1 (.slice A10 (j + 1) c10)
             have OG5:=OwnE.setElse (k:=w.heap.size + 1 + 1) (OwnE.cast HST.out.symm O6) (fun h=>by have:=h.1;omega) 1 (.slice A10 (j + 1) c10)
             have t5:=Below.setCell (p:=⟨w.heap.size + 1 + 1,1,none⟩) t4 (show w.heap.size ≤ w.heap.size + 1 + 1 by omega) (.slice A10 (j + 1) c10)
             refine hK.out _ _ ⟨G5,G5.cell⟩ (fun hS'=>?_)
             clear hK K hS hS' P4 Z4 Q4 OY4 O6 t4 G4 G5
             try simp only [Act.put,zq0,zq1,zq2,zq3,zq4,zq5]
             refine wpAnyH_done (by kernel_rfl) ?_ _
             have HN4 : Hid (m ≤ w6.heap.size):=by have:=HMG.out;show _ ≤ _;omega
             have LJ:=HLT.out
             clear l3 n4 l8
             go_wp2
             go_roundw
             case rel=>exact ⟨j + 1,_,LJ,(by first | exact round_same HWJ | go_num),t5,P5,Z5,Q5,OY5,(by rw [msize];exact OG5),(show Hid (m ≤ _) from by show m ≤ _;rw [msize];exact HN4.out)⟩
             case measure=>first | exact round_less HWJ LJ | (have h:=LJ;simp [intOf];omega)
           · rw [if_pos (by rfl)]
             go_simp
             obtain ⟨a11,ha11⟩ : ∃ z : Nat,z = w2.heap.size:=⟨_,rfl⟩
             have rd11:=rd_row w2 #[.int .i64 (nuOf g),.int .u8 ((kiOf g).toNat : Int),.int .i64 (atOf g),.int .i64 (manyOf g),.slice A6 (datOf g).length c6,.slice A9 (mksOf g).length c9] 64
             have bb:=Ext.alloc (Below.refl w2.heap.size w2) (.cells #[.int .i64 (nuOf g),.int .u8 ((kiOf g).toNat : Int),.int .i64 (atOf g),.int .i64 (manyOf g),.slice A6 (datOf g).length c6,.slice A9 (mksOf g).length c9] 64)
             have E11 : (goE 3).E (w2.alloc (.cells #[.int .i64 (nuOf g),.int .u8 ((kiOf g).toNat : Int),.int .i64 (atOf g),.int .i64 (manyOf g),.slice A6 (datOf g).length c6,.slice A9 (mksOf g).length c9] 64)) (Iv g8 (w2.alloc (.cells #[.int .i64 (nuOf g),.int .u8 ((kiOf g).toNat : Int),.int .i64 (atOf g),.int .i64 (manyOf g),.slice A6 (datOf g).length c6,.slice A9 (mksOf g).length c9] 64)).heap.size) g [.int .i64 (nuOf g),.int .u8 ((kiOf g).toNat : Int),.int .i64 (atOf g),.int .i64 (manyOf g),.slice A6 (datOf g).length c6,.slice A9 (mksOf g).length c9]:=
               ⟨nuOf g,kiOf g,atOf g,manyOf g,datOf g,mksOf g,_,_,HGE.out,rfl,HI.out,HMA.out.1,HMA.out.2,
                    (D9.below bb).mono (fun b hb=>⟨⟨⟨by have:=hb.1.1.1;omega,Nat.lt_of_lt_of_le hb.1.1.2 bb.size⟩,hb.1.2.below bb⟩,hb.2⟩),(M9.frame fun b hb=>bb.block b hb.2).mono fun b hb=>⟨by have:=hb.1;omega,Nat.lt_of_lt_of_le hb.2 bb.size⟩⟩
             clear D9 M9
             rw [← ha11] at rd11
             have P4:=P3.next bb
             have Z4:=Z3.next bb
             have Q4:=Q3.next bb
             have OY4:=OY.next (fun b hb=>by have:=hb.2;have:=HMG.out;omega) bb
             have OG4:=OG.next (fun b hb=>by have:=hb.2;omega) bb
             have t4:=Ext.trans t3 bb
             have n4:=Nat.lt_of_lt_of_le n3 bb.size
             refine hK.out _ _ ⟨hS.1.next bb,(hS.1.next bb).cell⟩ (fun hS'=>?_)
             clear P3 Z3 Q3 OY OG t3 n3
             have P3:=P4
             have Z3:=Z4
             have Q3:=Q4
             have OY:=OY4
             have OG:=OG4
             have t3:=t4
             have n3:=n4
             clear P4 Z4 Q4 OY4 OG4 t4 n4
             clear bb
             rw [← ha11]
             clear ha11
             clear hK K hS
             have hS:=hS'
             clear hS'
             try simp only [Act.put,zq0,zq1,zq2,zq3,zq4,zq5]
             generalize w2.alloc (.cells #[.int .i64 (nuOf g),.int .u8 ((kiOf g).toNat : Int),.int .i64 (atOf g),.int .i64 (manyOf g),.slice A6 (datOf g).length c6,.slice A9 (mksOf g).length c9] 64) = w5 at *
             refine wpAnyH_ready (rs:=[1]) (by kernel_rfl) (by simp) ?_
             refine AllReadyH.cons rfl (fun K hK=>?_) AllReadyH.nil
             rw [if_pos (by rfl)]
             have yQ:=Q3.cell
             go_simp
             refine hK.out _ _ hS (fun hS'=>?_)
             clear yQ
             clear hK K hS
             have hS:=hS'
             clear hS'
             try simp only [Act.put,zq0,zq1,zq2,zq3,zq4,zq5]
             refine wpAnyH_ready (rs:=[12]) (by kernel_rfl) (by simp) ?_
             refine AllReadyH.cons rfl (fun K hK=>?_) AllReadyH.nil
             rw [if_pos (by rfl)]
             refine wp_pushI (.tmp 57) (.tmp 67) 26 rfl m g8 64 ig _ 80 Try.underlying26 hig hg0 hg1 hg2 rfl (by decide) u (gs.take j) rfl OG (Nat.le_of_lt n3) HMG.out (some ⟨a11,0,none⟩) 1 _ rfl rd11 g E11 HBY.out.1 HBY.out.2 ?_
             intro v6 w6 O6 g6 k6
             have l3:=HM.out
             have P4:=P3.grown g6 (fun e=>by have:=k6 _ e;omega)
             have Z4:=Z3.grown g6 (fun e=>by have:=k6 _ e;omega)
             have Q4:=Q3.grown g6 (fun e=>by have:=k6 _ e;omega)
             have OY4:=OY.frame (fun b hb=>g6.block b (by have:=hb.2;have:=HMG.out;omega) (fun e=>by have:=k6 _ e.symm;have:=hb.2;omega))
             have t4:=Below.grown t3 g6 t3.size (fun r e=>by have:=k6 r e;omega)
             have n4:=Nat.lt_of_lt_of_le n3 g6.size
             have G4:=hS.1.grown g6 (fun e=>by have:=HOG.out _ e;omega)
             refine hK.out _ _ ⟨G4,G4.cell⟩ (fun hS'=>?_)
             clear P3 Z3 Q3 OY OG t3 n3 k6 g6 E11 rd11
             clear hK K hS
             have hS:=hS'
             clear hS'
             try simp only [Act.put,zq0,zq1,zq2,zq3,zq4,zq5]
             obtain ⟨A10,c10,e10⟩:=O6.slice
             have e11:=e10.trans (HTL.out A10 c10)
             clear e10
             subst e11
             refine wpAnyH_take (i:=13) (v:=?_) rfl (by kernel_rfl) (by kernel_rfl) (by kernel_rfl) (fun _ _ _ h=>h) (Or.inl ⟨by rfl,?_⟩) hS ?_
             rotate_left
             · (intro w hSw;(try dsimp only at hSw);go_simp;(try with_reducible rfl))
             rotate_left
             simp only [Act.put,zq0,zq1,zq2,zq3,zq4,zq5]
             refine wpAnyH_ready (rs:=[14]) (by kernel_rfl) (by simp) ?_
             refine AllReadyH.cons rfl (fun K hK=>?_) AllReadyH.nil
             rw [if_pos (by rfl)]
             have fQ:=Q4.free
             have yQ:=Q4.cell
             go_simp
             clear fQ yQ
             have Q5 : BoxOf _ (w.heap.size + 1 + 1) #[.slice Ay ys.length cy,.slice A10 (j + 1) c10] 28:=mbox_self Q4 1 (.slice A10 (j + 1) c10)
             have P5:=mbox_else P4 (show w.heap.size ≠ w.heap.size + 1 + 1 by omega) 1 (.slice A10 (j + 1) c10)
             have Z5:=mbox_else Z4 (show w.heap.size + 1 ≠ w.heap.size + 1 + 1 by omega) 1 (.slice A10 (j + 1) c10)
             have G5:=mbox_else G4 (show g8 ≠ w.heap.size + 1 + 1 by omega) 1 (.slice A10 (j + 1) c10)
             have OY5:=OwnE.setElse (k:=w.heap.size + 1 + 1) OY4 (fun h=>by have:=h.1;omega) 1 (.slice A10 (j + 1) c10)
             have OG5:=OwnE.setElse (k:=w.heap.size + 1 + 1) (OwnE.cast HST.out.symm O6) (fun h=>by have:=h.1;omega) 1 (.slice A10 (j + 1) c10)
             have t5:=Below.setCell (p:=⟨w.heap.size + 1 + 1,1,none⟩) t4 (show w.heap.size ≤ w.heap.size + 1 + 1 by omega) (.slice A10 (j + 1) c10)
             refine hK.out _ _ ⟨G5,G5.cell⟩ (fun hS'=>?_)
             clear hK K hS hS' P4 Z4 Q4 OY4 O6 t4 G4 G5
             try simp only [Act.put,zq0,zq1,zq2,zq3,zq4,zq5]
             refine wpAnyH_done (by kernel_rfl) ?_ _
             have HN4 : Hid (m ≤ w6.heap.size):=by have:=HMG.out;show _ ≤ _;omega
             have LJ:=HLT.out
             clear l3 n4 l8
             go_wp2
             go_roundw
             case rel=>exact ⟨j + 1,_,LJ,(by first | exact round_same HWJ | go_num),t5,P5,Z5,Q5,OY5,(by rw [msize];exact OG5),(show Hid (m ≤ _) from by show m ≤ _;rw [msize];exact HN4.out)⟩
             case measure=>first | exact round_less HWJ LJ | (have h:=LJ;simp [intOf];omega)
     · have hje : gs.take j = gs:=List.take_of_length_le (by omega)
       rw [hje] at OG2
       obtain ⟨Ag,cg,rfl⟩:=OG2.slice
       have HO:=Lib.hid OY2
       have HGG:=Lib.hid OG2
       have z2:=Z2.cell
       have f2:=Z2.free
       have y2:=Q2.cell
       clear hje OY2 OG2 hj
       go_wp2
       have B5 : BoxOf _ (w.heap.size + 1) #[.slice Ay ys.length cy,.slice Ag gs.length cg] 28:=mbox_self (mbox_self Z2 0 (.slice Ay ys.length cy)) 1 (.slice Ag gs.length cg)
       have T5:=Below.setCell (p:=⟨w.heap.size + 1,1,none⟩) (Below.setCell (p:=⟨w.heap.size + 1,0,none⟩) t2 (show w.heap.size ≤ w.heap.size + 1 by omega) (.slice Ay ys.length cy)) (show w.heap.size ≤ w.heap.size + 1 by omega) (.slice Ag gs.length cg)
       have O5:=OwnE.setElse (k:=w.heap.size + 1) (OwnE.setElse (k:=w.heap.size + 1) HO.out (fun h=>by have:=h.1;omega) 0 (.slice Ay ys.length cy)) (fun h=>by have:=h.1;omega) 1 (.slice Ag gs.length cg)
       have G5:=OwnE.setElse (k:=w.heap.size + 1) (OwnE.setElse (k:=w.heap.size + 1) HGG.out (fun h=>by have:=h.1;omega) 0 (.slice Ay ys.length cy)) (fun h=>by have:=h.1;omega) 1 (.slice Ag gs.length cg)
       refine bodyPost_ret (v:=.agg #[.slice Ay ys.length cy,.slice Ag gs.length cg]) (results_cell_row rfl _ _ (w.heap.size + 1) 28 #[.slice Ay ys.length cy,.slice Ag gs.length cg] (0,0) _ rfl B5 Try.underlying28 rfl (by kernel_rfl)) rfl ⟨⟨_,_,m,rfl,by omega,by simp only [msize];exact HN2.out,OwnE.base0 (base:=base) (OwnE.mono (F':=Iv w.heap.size m) O5 fun b hb=>⟨by have:=hb.1;omega,hb.2⟩) (by omega),by simp only [msize];exact G5⟩,T5⟩
end Go.Proofs.Ytclbihcggjjgaaa
namespace Go.Proofs.Ytclbihcggjjgaaa
open Go Go.RowKit
set_option linter.unusedSimpArgs false
set_option linter.unusedVariables false
theorem GoS.cut {w : World} {By : Nat → Prop} {lo : Nat} {B : Option Addr} {d : Nat} {gs : List GoTy.T} (h : GoS w By lo B d gs) (hBy : ∀ b,By b → b < w.heap.size) (hd : gs.length ≤ d) (hlo : lo ≤ w.heap.size) {j : Nat} (hj : j < gs.length) :
 ∃ (G o : Nat) (cells : Array Value) (Ab : Option Addr) (cb : Nat) (Am : Option Addr) (cm : Nat) (By' : Nat → Prop),B = some ⟨G,o,none⟩ ∧ BoxOf w G cells 64 ∧ o + d * 6 ≤ cells.size ∧
  (w.cell? ⟨G,o + j * 6,none⟩ = some (.int .i64 (nuOf gs[j])) ∧ w.cell? ⟨G,o + j * 6 + 1,none⟩ = some (.int .u8 ((kiOf gs[j]).toNat : Int)) ∧ w.cell? ⟨G,o + j * 6 + 2,none⟩ = some (.int .i64 (atOf gs[j])) ∧ w.cell? ⟨G,o + j * 6 + 3,none⟩ = some (.int .i64 (manyOf gs[j])) ∧ w.cell? ⟨G,o + j * 6 + 4,none⟩ = some (.slice Ab (datOf gs[j]).length cb) ∧ w.cell? ⟨G,o + j * 6 + 5,none⟩ = some (.slice Am (mksOf gs[j]).length cm)) ∧
  (∀ q,q < gs.length * 6 → ∃ u,cells.toList[o + q]? = some u ∧ u.oneCell' = true) ∧ (∀ b,By b → By' b) ∧ (∀ b,By' b → By b ∨ ∃ cs,lo ≤ b ∧ BoxOf w b cs 3) ∧ RdIn w By' (.sl .byte) (datOf gs[j]) [.slice Ab (datOf gs[j]).length cb] ∧ RdIn w By' (.sl .int) (mksOf gs[j]) [.slice Am (mksOf gs[j]).length cm] ∧
  ∀ w' v,Below w.heap.size w w' → w'.ownsRow w.heap.size 64 6 v (gs.length - 1) ((cells.toList.drop o).take (j * 6) ++ (cells.toList.drop (o + (j + 1) * 6)).take ((gs.length - 1 - j) * 6)) → ∃ B2 d2,v = .slice B2 (gs.length - 1) d2 ∧ (gs.length - 1 ≤ d2 ∧ d2 ≤ maxLen) ∧ GoS w' By' lo B2 d2 (gs.eraseIdx j) ∧ ∀ b,By' b → w'.heap[b]? = w.heap[b]?:=by
 rcases h with h | ⟨G,o,cells,bf,h1,h2,h3,h4,h5⟩
 · rw [h] at hj;simp at hj
 · have hcell : ∀ q,q < gs.length * 6 → ∃ u,cells.toList[o + q]? = some u ∧ u.oneCell' = true:=by
    intro q hq
    have hq1 : q / 6 < gs.length:=by omega
    obtain ⟨vd,vm,⟨k0,k1,k2,k3,k4,k5⟩,k6,k7,m0,Am,cm,m1,_⟩:=h4 (q / 6) hq1
    have e6 : q = q / 6 * 6 + q % 6:=by omega
    have hm : q % 6 = 0 ∨ q % 6 = 1 ∨ q % 6 = 2 ∨ q % 6 = 3 ∨ q % 6 = 4 ∨ q % 6 = 5:=by omega
    rw [e6,← Nat.add_assoc]
    obtain ⟨Ad,cd,ed,_⟩:=k7.bytes
    rcases hm with hm | hm | hm | hm | hm | hm <;> rw [hm]
    · exact ⟨_,k0,rfl⟩
    · exact ⟨_,k1,rfl⟩
    · exact ⟨_,k2,rfl⟩
    · exact ⟨_,k3,rfl⟩
    · exact ⟨_,k4,by rw [ed];rfl⟩
    · exact ⟨_,k5,by rw [m1];rfl⟩
   have h4j:=h4 j hj
   obtain ⟨vd,vm,⟨k0,k1,k2,k3,k4,k5⟩,k6,k7,m0,Am,cm,rfl,m2,m3,m4,m5⟩:=h4j
   obtain ⟨Ab,cb,rfl,_⟩:=k7.bytes
   have hmk : ∀ i (hi : i < gs.length),mksOf gs[i] ≠ [] → ∃ cur,BoxOf w (bf i) cur 3 ∧ lo ≤ bf i ∧ ¬ By (bf i):=by
    intro i hi hne
    obtain ⟨_,_,_,_,_,_,_,_,_,_,_,_,hh⟩:=h4 i hi
    rcases hh with hh | ⟨_,cur,_,hh,hh2,_⟩
    · exact absurd hh hne
    · exact ⟨cur,hh,hh2.1,hh2.2⟩
   refine ⟨G,o,cells,Ab,cb,Am,cm,fun b=>By b ∨ (mksOf gs[j] ≠ [] ∧ b = bf j),h1,h2,h3.2.2,⟨by rw [h2.cell];exact k0,by rw [h2.cell];exact k1,by rw [h2.cell];exact k2,by rw [h2.cell];exact k3,by rw [h2.cell];exact k4,by rw [h2.cell];exact k5⟩,hcell,fun b hb=>.inl hb,fun b hb=>?_,k7.mono fun b hb=>.inl hb,?_,fun w' v hw hown=>?_⟩
   · rcases hb with hb | ⟨hne,rfl⟩
     · exact .inl hb
     · obtain ⟨cur,e1,e2,_⟩:=hmk j hj hne
       exact .inr ⟨cur,e2,e1⟩
   · refine rdin_sl.2 ⟨_,_,rfl,m2,m3,m4,?_⟩
     rcases m5 with m5 | ⟨o',cur,m6,m7,m8,m9⟩
     · exact .inl m5
     · by_cases hne : mksOf gs[j] = []
       · exact .inl hne
       · refine .inr ⟨bf j,o',m6,.inr ⟨hne,rfl⟩,fun i hi=>⟨[.int .i64 ((mksOf gs[j])[i]'hi)],fun q hq=>?_,rdin_int.2 ⟨rfl,m0 _ (List.getElem_mem hi)⟩⟩⟩
         have hq0 : q = 0:=by have : q < 1:=hq;omega
         subst hq0
         show w.cell? ⟨bf j,o' + i * 1 + 0,none⟩ = _
         rw [Nat.mul_one,Nat.add_zero,m7.cell]
         exact m9 i hi
   · have hB2 : ∀ b,(By b ∨ (mksOf gs[j] ≠ [] ∧ b = bf j)) → b < w.heap.size:=by
      intro b hb
      rcases hb with hb | ⟨hne,rfl⟩
      · exact hBy b hb
      · obtain ⟨cur,e1,_,_⟩:=hmk j hj hne
        exact e1.lt
     have hfr : ∀ b,b < w.heap.size → w'.heap[b]? = w.heap[b]?:=fun b h1=>hw.block b h1
     have hcl : cells.toList.length = cells.size:=Array.length_toList
     have hel : (gs.eraseIdx j).length = gs.length - 1:=List.length_eraseIdx_of_lt hj
     rcases hown.2 with ⟨rfl,h0⟩ | ⟨G2,cap,cur,rfl,e1,e2,e3,e4,e5,e6⟩
     · refine ⟨none,0,by rw [h0],⟨by omega,by unfold maxLen;omega⟩,.inl (List.eq_nil_of_length_eq_zero (by omega)),fun b hb=>hfr b (hB2 b hb)⟩
     · refine ⟨some ⟨G2,0,none⟩,cap,rfl,⟨e3,e4⟩,.inr ⟨G2,0,cur,fun i=>bf (if i < j then i else i + 1),rfl,e2,⟨by omega,fun h=>by have:=hB2 _ h;omega,by rw [Nat.zero_add,e5];exact Nat.le_refl _⟩,fun i hi=>?_,fun i i' hi hi' e1 e2 e=>?_⟩,fun b hb=>hfr b (hB2 b hb)⟩
       · obtain ⟨hlt,he⟩:=eraseIdx_at hj hi
         rw [he]
         have hil : i < gs.length - 1:=by rw [hel] at hi;exact hi
         refine (h4 _ hlt).frame2 (fun q hq=>?_) (fun hne=>?_) (fun b hb=>?_) (fun b hb=>.inl hb) (fun hne hb=>?_)
         · show cur.toList[0 + i * 6 + q]? = cells.toList[o + (if i < j then i else i + 1) * 6 + q]?
           have h6 : cur.toList[i * 6 + q]? = ((cells.toList.drop o).take (j * 6) ++ (cells.toList.drop (o + (j + 1) * 6)).take ((gs.length - 1 - j) * 6))[i * 6 + q]?:=by
            rw [← e6,List.getElem?_take,if_pos (by omega)]
           have hjl : ((cells.toList.drop o).take (j * 6)).length = j * 6:=by rw [List.length_take,List.length_drop,hcl];have:=h3.2.2;omega
           rw [Nat.zero_add,h6]
           by_cases h : i < j
           · rw [if_pos h,List.getElem?_append_left (by rw [hjl];omega),List.getElem?_take,if_pos (by omega),List.getElem?_drop]
             congr 1
             omega
           · rw [if_neg h,List.getElem?_append_right (by rw [hjl];omega),hjl,List.getElem?_take,if_pos (by omega),List.getElem?_drop]
             congr 1
             omega
         · obtain ⟨cur,e1,_,_⟩:=hmk _ hlt hne
           exact hfr _ e1.lt
         · exact hfr _ (hB2 b (.inl hb))
         · rcases hb with hb | ⟨hne2,e⟩
           · exact hb
           · have:=h5 _ _ hlt hj hne hne2 e
             split at this <;> omega
       · obtain ⟨hlt,he⟩:=eraseIdx_at hj hi
         obtain ⟨hlt',he'⟩:=eraseIdx_at hj hi'
         rw [he] at e1
         rw [he'] at e2
         have:=h5 _ _ hlt hlt' e1 e2 e
         split at this <;> split at this <;> omega
theorem end_cut {w : World} {By : Nat → Prop} {lo R : Nat} {B : Option Addr} {d : Nat} {ys : Ys} {gs : List GoTy.T} {gO : Nat} {oc : Array Value} (hM : MayS w By lo R ys) (hG : GoS w By lo B d gs) (hBy : ∀ b,By b → NewB lo w b) (hd : gs.length ≤ d) (hlo : lo ≤ w.heap.size) {j : Nat} (hj : j < gs.length) (hO : BoxOf w gO oc 28) (hBO : ∀ b,By b → b ≠ gO) :
 ∃ (G o : Nat) (cells : Array Value) (Ab : Option Addr) (cb : Nat) (Am : Option Addr) (cm : Nat) (By' : Nat → Prop),B = some ⟨G,o,none⟩ ∧ BoxOf w G cells 64 ∧ o + d * 6 ≤ cells.size ∧
  (w.cell? ⟨G,o + j * 6,none⟩ = some (.int .i64 (nuOf gs[j])) ∧ w.cell? ⟨G,o + j * 6 + 1,none⟩ = some (.int .u8 ((kiOf gs[j]).toNat : Int)) ∧ w.cell? ⟨G,o + j * 6 + 2,none⟩ = some (.int .i64 (atOf gs[j])) ∧ w.cell? ⟨G,o + j * 6 + 3,none⟩ = some (.int .i64 (manyOf gs[j])) ∧ w.cell? ⟨G,o + j * 6 + 4,none⟩ = some (.slice Ab (datOf gs[j]).length cb) ∧ w.cell? ⟨G,o + j * 6 + 5,none⟩ = some (.slice Am (mksOf gs[j]).length cm)) ∧
  (∀ q,q < gs.length * 6 → ∃ u,cells.toList[o + q]? = some u ∧ u.oneCell' = true) ∧
  ∀ w' v,Below w.heap.size w w' → w'.ownsRow w.heap.size 64 6 v (gs.length - 1) ((cells.toList.drop o).take (j * 6) ++ (cells.toList.drop (o + (j + 1) * 6)).take ((gs.length - 1 - j) * 6)) → ∃ B2 d2,v = .slice B2 (gs.length - 1) d2 ∧ (gs.length - 1 ≤ d2 ∧ d2 ≤ maxLen) ∧
     ∀ u,MayS (w'.setCell ⟨gO,1,none⟩ u) By' lo R ys ∧ GoS (w'.setCell ⟨gO,1,none⟩ u) By' lo B2 d2 (gs.eraseIdx j) ∧ (∀ b,By' b → NewB lo (w'.setCell ⟨gO,1,none⟩ u) b) ∧ RdIn (w'.setCell ⟨gO,1,none⟩ u) By' (.sl .byte) (datOf gs[j]) [.slice Ab (datOf gs[j]).length cb] ∧ RdIn (w'.setCell ⟨gO,1,none⟩ u) By' (.sl .int) (mksOf gs[j]) [.slice Am (mksOf gs[j]).length cm]:=by
 obtain ⟨G,o,cells,Ab,cb,Am,cm,By',h1,h2,h3,h4,h5,h6,h7,h8,h9,h10⟩:=hG.cut (fun b hb=>(hBy b hb).2.1) hd hlo hj
 refine ⟨G,o,cells,Ab,cb,Am,cm,By',h1,h2,h3,h4,h5,fun w' v hw hown=>?_⟩
 obtain ⟨B2,d2,e1,e2,e3,e4⟩:=h10 w' v hw hown
 refine ⟨B2,d2,e1,e2,fun u=>?_⟩
 have hO':=hO.next hw
 have hB8 : But 28 w' (w'.setCell ⟨gO,1,none⟩ u):=But.setCell hO' u
 have hlt : ∀ b,By' b → b < w.heap.size:=fun b hb=>by
  rcases h7 b hb with h | ⟨cs,_,h⟩
  · exact (hBy b h).2.1
  · exact h.lt
 have hne : ∀ b,By' b → b ≠ gO:=fun b hb=>by
  rcases h7 b hb with h | ⟨cs,_,h⟩
  · exact hBO b h
  · exact box_diff h hO (by decide)
 have hbk : ∀ b,By' b → (w'.setCell ⟨gO,1,none⟩ u).heap[b]? = w'.heap[b]?:=fun b hb=>Below.heap_setCell _ _ _ _ (hne b hb)
 have hM2 : MayS w By' lo R ys:=hM.more h6 (fun b cs hb h=>by
  rcases h7 b h with h | ⟨cs2,_,h⟩
  · exact h
  · rcases hb with hb | hb
    · exact absurd rfl (box_diff h hb (by decide))
    · exact absurd rfl (box_diff h hb (by decide)))
 have hM3:=hM2.mono hw hlt (fun _ h=>h) (fun _ _ h=>h)
 refine ⟨hM3.but (t:=28) (by decide) (by decide) hB8 hbk,e3.but (t:=28) (by decide) (by decide) hB8 hbk (fun _ h=>h) (fun _ _ h=>h),fun b hb=>?_,(h8.frame fun b hb=>hw.block b (hlt b hb)).frame hbk,(h9.frame fun b hb=>hw.block b (hlt b hb)).frame hbk⟩
 have hs : w.heap.size ≤ (w'.setCell ⟨gO,1,none⟩ u).heap.size:=by rw [msize];exact hw.size
 have hbb : (w'.setCell ⟨gO,1,none⟩ u).heap[b]? = w.heap[b]?:=(hbk b hb).trans (hw.block b (hlt b hb))
 rcases h7 b hb with h | ⟨cs2,q1,q2⟩
 · exact newB_next (hBy b h) hs hbb
 · exact newB_next ⟨q1,q2.lt,cs2,_,q2⟩ hs hbb
theorem rd_part {w : World} {G a k : Nat} {cells : Array Value} {t : TypeId} (h : BoxOf w G cells t) (ha : a + k ≤ cells.size) : Rd w (some ⟨G,a,none⟩) ((cells.toList.drop a).take k):=.inr ⟨G,a,rfl,fun i hi=>by
 have hcl : cells.toList.length = cells.size:=Array.length_toList
 have hk : i < k:=by rw [List.length_take] at hi;omega
 rw [h.cell,List.getElem?_take,if_pos hk,List.getElem?_drop]⟩
theorem part_len {o k : Nat} {cells : Array Value} (ha : o + k ≤ cells.size) : ((cells.toList.drop o).take k).length = k:=by
 have hcl : cells.toList.length = cells.size:=Array.length_toList
 rw [List.length_take,List.length_drop,hcl]
 omega
theorem part_one {o a k n : Nat} {cells : Array Value} (h : ∀ q,q < n → ∃ u,cells.toList[o + q]? = some u ∧ u.oneCell' = true) (ha : a + k ≤ n) : ∀ u ∈ (cells.toList.drop (o + a)).take k,u.oneCell' = true:=by
 intro u hu
 obtain ⟨i,hi,rfl⟩:=List.getElem_of_mem hu
 have hk : i < k:=by rw [List.length_take] at hi;omega
 obtain ⟨u2,e1,e2⟩:=h (a + i) (by omega)
 have e3 : ((cells.toList.drop (o + a)).take k)[i]? = some u2:=by
  rw [List.getElem?_take,if_pos hk,List.getElem?_drop,Nat.add_assoc]
  exact e1
 rw [List.getElem?_eq_getElem hi] at e3
 rw [Option.some.inj e3]
 exact e2
end Go.Proofs.Ytclbihcggjjgaaa
namespace Go.Proofs.Ytclbihcggjjgaaa
open Go Go.RowKit
set_option linter.unusedSimpArgs false
set_option linter.unusedVariables false
def AtNum (gs : List GoTy.T) (number : Int) (i : Nat) (a : Int) : Prop:=(a = -1 ∧ ∀ q (h : q < gs.length),q < i → ¬ nuOf gs[q] = number) ∨ ∃ j,∃ h : j < gs.length,a = (j : Int) ∧ nuOf gs[j] = number
theorem AtNum.none (gs : List GoTy.T) (number : Int) : AtNum gs number 0 (-1):=.inl ⟨rfl,fun q _ h=>absurd h (Nat.not_lt_zero _)⟩
theorem AtNum.yes {gs : List GoTy.T} {number : Int} {i : Nat} (h : i < gs.length) (e : nuOf gs[i] = number) : AtNum gs number (i + 1) (i : Int):=.inr ⟨i,h,rfl,e⟩
theorem AtNum.no {gs : List GoTy.T} {number a : Int} {i : Nat} (h : AtNum gs number i a) (hi : i < gs.length) (e : ¬ nuOf gs[i] = number) : AtNum gs number (i + 1) a:=by
 rcases h with ⟨h1,h2⟩ | h
 · exact .inl ⟨h1,fun q hq hq2=>by
    by_cases h : q = i
    · subst h;exact e
    · exact h2 q hq (by omega)⟩
 · exact .inr h
set_option maxRecDepth 100000 in
set_option maxHeartbeats 2000000 in
theorem rend_any (S : Nat → Prop) (x : Cfg) (ys : Ys) (gs : List GoTy.T) (A : Option Addr) (ca : Nat) (B : Option Addr) (cb : Nat) (number : Int) (w : World) (hy : RdIn w S (.sl (.sl (.sl .byte))) ys [.slice A ys.length ca]) (hg : RdIn w S (.sl GoTy) gs [.slice B gs.length cb]) :
 Calls Try.prog 32 #[x.val,.agg #[.slice A ys.length ca,.slice B gs.length cb],.int .i64 number] w fun e w'=>EndIs w.heap.size x ys gs number e w' ∧ Below w.heap.size w w':=by
 have HPC : Hid (∀ w',Below w.heap.size w w' → Calls Try.prog 40 #[x.val,.agg #[.slice A ys.length ca,.slice B gs.length cb]] w' fun e w''=>YesNo (PlainOk x ys gs) e ∧ Below w'.heap.size w' w''):=fun w' bb=>rpmay_any S x ys gs A ca B cb w' (hy.below bb) (hg.below bb)
 have HTW : Hid (∀ w',Below w.heap.size w w' → Calls Try.prog 10 #[.agg #[.slice A ys.length ca,.slice B gs.length cb]] w' fun e w''=>TwinIs w'.heap.size ys gs e w'' ∧ Below w'.heap.size w' w''):=fun w' bb=>rtwinE_any S ys gs A ca B cb w' (hy.below bb) (hg.below bb)
 have HG:=Lib.hid hg
 have HGM:=Lib.hid (go_max hg)
 clear hy hg
 obtain ⟨ig,hig,hg0,hg1,hg2⟩:=minfo_going
 obtain ⟨id,m,c,r,l,h⟩:=x
 unfold Cfg.val at *
 dsimp only at *
 have C0:=BoxOf.alloc (BoxOf.alloc (BoxOf.alloc (BoxOf.new w #[.int .u32 (id : Int),.int .i64 m,.int .i64 c,.int .i64 r,.int .i64 l,.int .i64 h] 24) (.cells #[.slice A ys.length ca,.slice B gs.length cb] 28)) (.cells #[.slice none 0 0,.slice none 0 0] 28)) (.cells #[.int .i64 0,.int .i64 0,.slice none 0 0,.int .i64 0] 53)
 have P0:=BoxOf.alloc (BoxOf.alloc (BoxOf.new' (w.alloc (.cells #[.int .u32 (id : Int),.int .i64 m,.int .i64 c,.int .i64 r,.int .i64 l,.int .i64 h] 24)) (w.heap.size + 1) #[.slice A ys.length ca,.slice B gs.length cb] 28 (by simp)) (.cells #[.slice none 0 0,.slice none 0 0] 28)) (.cells #[.int .i64 0,.int .i64 0,.slice none 0 0,.int .i64 0] 53)
 have Z0:=BoxOf.alloc (BoxOf.new' ((w.alloc (.cells #[.int .u32 (id : Int),.int .i64 m,.int .i64 c,.int .i64 r,.int .i64 l,.int .i64 h] 24)).alloc (.cells #[.slice A ys.length ca,.slice B gs.length cb] 28)) (w.heap.size + 2) #[.slice none 0 0,.slice none 0 0] 28 (by simp)) (.cells #[.int .i64 0,.int .i64 0,.slice none 0 0,.int .i64 0] 53)
 have Y0:=BoxOf.new' (((w.alloc (.cells #[.int .u32 (id : Int),.int .i64 m,.int .i64 c,.int .i64 r,.int .i64 l,.int .i64 h] 24)).alloc (.cells #[.slice A ys.length ca,.slice B gs.length cb] 28)).alloc (.cells #[.slice none 0 0,.slice none 0 0] 28)) (w.heap.size + 3) #[.int .i64 0,.int .i64 0,.slice none 0 0,.int .i64 0] 53 (by simp)
 have t0:=Ext.alloc (Ext.alloc (Ext.alloc (Ext.alloc (Below.refl w.heap.size w) (.cells #[.int .u32 (id : Int),.int .i64 m,.int .i64 c,.int .i64 r,.int .i64 l,.int .i64 h] 24)) (.cells #[.slice A ys.length ca,.slice B gs.length cb] 28)) (.cells #[.slice none 0 0,.slice none 0 0] 28)) (.cells #[.int .i64 0,.int .i64 0,.slice none 0 0,.int .i64 0] 53)
 go_enter Try.func32,Try.ntmps32
 go_upto_region 1 with fail
 generalize (((w.alloc (.cells #[.int .u32 (id : Int),.int .i64 m,.int .i64 c,.int .i64 r,.int .i64 l,.int .i64 h] 24)).alloc (.cells #[.slice A ys.length ca,.slice B gs.length cb] 28)).alloc (.cells #[.slice none 0 0,.slice none 0 0] 28)).alloc (.cells #[.int .i64 0,.int .i64 0,.slice none 0 0,.int .i64 0] 53) = W at *
 have c0:=C0.cell
 have p0:=P0.cell
 have z0:=Z0.cell
 have zf0:=Z0.free
 have yc0:=Y0.cell
 have yf0:=Y0.free
 go_wp2_with fail
 refine (HPC.out _ t0).mono ?_
 rintro e w1 ⟨⟨bb,rfl,hb1⟩,b1⟩
 clear c0 p0 z0 zf0 yc0 yf0
 have C1:=C0.next b1
 have P1:=P0.next b1
 have Z1:=Z0.next b1
 have Y1:=Y0.next b1
 have t1:=Ext.trans t0 b1
 clear C0 P0 Z0 Y0 t0
 clear b1
 cases bb with
 | false=>
   have hno : ¬ PlainOk ⟨id,m,c,r,l,h⟩ ys gs:=fun hp=>by have:=hb1.2 hp;cases this
   have c1:=C1.cell
   have p1:=P1.cell
   have z1:=Z1.cell
   have zf1:=Z1.free
   have yc1:=Y1.cell
   have yf1:=Y1.free
   go_wp2
   have B5:=mbox_self (mbox_self Z1 0 (.slice none 0 0)) 1 (.slice none 0 0)
   have B6:=mbox_self (mbox_self (mbox_self (mbox_self (mbox_else (mbox_else Y1 (show w.heap.size + 3 ≠ w.heap.size + 2 by omega) 0 (.slice none 0 0)) (show w.heap.size + 3 ≠ w.heap.size + 2 by omega) 1 (.slice none 0 0)) 0 (.int .i64 0)) 1 (.int .i64 0)) 2 (.slice none 0 0)) 3 (.int .i64 0)
   have B7:=mbox_else (mbox_else (mbox_else (mbox_else B5 (show w.heap.size + 2 ≠ w.heap.size + 3 by omega) 0 (.int .i64 0)) (show w.heap.size + 2 ≠ w.heap.size + 3 by omega) 1 (.int .i64 0)) (show w.heap.size + 2 ≠ w.heap.size + 3 by omega) 2 (.slice none 0 0)) (show w.heap.size + 2 ≠ w.heap.size + 3 by omega) 3 (.int .i64 0)
   have T5:=Below.setCell (p:=⟨w.heap.size + 3,3,none⟩) (Below.setCell (p:=⟨w.heap.size + 3,2,none⟩) (Below.setCell (p:=⟨w.heap.size + 3,1,none⟩) (Below.setCell (p:=⟨w.heap.size + 3,0,none⟩) (Below.setCell (p:=⟨w.heap.size + 2,1,none⟩) (Below.setCell (p:=⟨w.heap.size + 2,0,none⟩) t1 (show w.heap.size ≤ w.heap.size + 2 by omega) (.slice none 0 0)) (show w.heap.size ≤ w.heap.size + 2 by omega) (.slice none 0 0)) (show w.heap.size ≤ w.heap.size + 3 by omega) (.int .i64 0)) (show w.heap.size ≤ w.heap.size + 3 by omega) (.int .i64 0)) (show w.heap.size ≤ w.heap.size + 3 by omega) (.slice none 0 0)) (show w.heap.size ≤ w.heap.size + 3 by omega) (.int .i64 0)
   exact bodyPost_ret (v:=.tuple #[.agg #[.slice none 0 0,.slice none 0 0],.agg #[.int .i64 0,.int .i64 0,.slice none 0 0,.int .i64 0],.int .i64 8]) (Eq.trans (results_rows3 (P:=Try.prog) (fn:=Try.f32) (p:=6) (q:=7) (u:=8) rfl _ _ (w.heap.size + 2) 28 #[.slice none 0 0,.slice none 0 0] (w.heap.size + 3) 53 #[.int .i64 0,.int .i64 0,.slice none 0 0,.int .i64 0] rfl rfl B7 B6 _ _ Try.underlying28 Try.underlying53 rfl rfl (by kernel_rfl) (by kernel_rfl)) rfl) rfl ⟨EndIs.err (.inl ⟨hno,rfl,rfl,rfl,rfl,rfl,rfl⟩),T5⟩
 | true=>
   have HOK:=Lib.hid (hb1.1 rfl)
   clear hb1
   have c1:=C1.cell
   have p1:=P1.cell
   have z1:=Z1.cell
   have zf1:=Z1.free
   have yc1:=Y1.cell
   have yf1:=Y1.free
   go_wp2_with fail
   refine (HTW.out _ t1).mono ?_
   rintro e w2 ⟨h2,b2⟩
   obtain ⟨R,cR,B',d',By,rfl,hcR,hd',hM,hG,hBy⟩:=h2.state (by have h3:=Cfg.crm HOK.out.cfg;have h4:=HOK.out.len;omega) (fun i hi=>by have:=(HOK.out.row hi).1;omega)
   clear c1 p1 z1 zf1 yc1 yf1
   obtain ⟨lo,hlo⟩ : ∃ z : Nat,z = w1.heap.size:=⟨_,rfl⟩
   rw [← hlo] at hM hG hBy
   have hlw : w.heap.size + 3 < lo:=by have:=Y1.lt;omega
   have hl2 : lo ≤ w2.heap.size:=by rw [hlo];exact b2.size
   have C2:=C1.next b2
   have P2:=P1.next b2
   have Z2:=Z1.next b2
   have Y2:=Y1.next b2
   have t2:=Ext.trans t1 b2
   clear C1 P1 Z1 Y1 t1
   have b4:=Ext.alloc (Below.refl w2.heap.size w2) (.cells #[.slice (some ⟨R,0,none⟩) ys.length cR,.slice B' gs.length d'] 28)
   have O4:=BoxOf.new w2 #[.slice (some ⟨R,0,none⟩) ys.length cR,.slice B' gs.length d'] 28
   have hBl : ∀ b,By b → b < w2.heap.size:=fun b hb=>(hBy b hb).2.1
   have hM4:=Lib.hid (hM.mono b4 hBl (fun _ h=>h) (fun _ _ h=>h))
   have hG4:=Lib.hid (hG.mono b4 hBl (fun _ h=>h) (fun _ _ h=>h))
   have hBy4 : Hid (∀ b,By b → NewB lo (w2.alloc (.cells #[.slice (some ⟨R,0,none⟩) ys.length cR,.slice B' gs.length d'] 28)) b):=fun b hb=>newB_next (hBy b hb) b4.size (b4.block b (hBl b hb))
   have HLW:=Lib.hid (And.intro hlw hl2)
   have HBl:=Lib.hid hBl
   clear b2 h2 hM hG hBy hBl hlo hlw hl2
   go_upto_region 4 with fail
   obtain ⟨gO,hgo⟩ : ∃ z : Nat,z = w2.heap.size:=⟨_,rfl⟩
   rw [← hgo] at O4 ⊢
   have HGO:=Lib.hid hgo
   have HBG : Hid (∀ b,By b → b ≠ gO):=fun b hb=>by have:=HBl.out b hb;omega
   have HLO4 : Hid (lo ≤ (w2.alloc (.cells #[.slice (some ⟨R,0,none⟩) ys.length cR,.slice B' gs.length d'] 28)).heap.size):=Nat.le_trans HLW.out.2 b4.size
   clear hgo
   have C4:=C2.next b4
   have P4:=P2.next b4
   have Z4:=Z2.next b4
   have Y4:=Y2.next b4
   have t4:=Ext.trans t2 b4
   clear C2 P2 Z2 Y2 t2
   generalize w2.alloc (.cells #[.slice (some ⟨R,0,none⟩) ys.length cR,.slice B' gs.length d'] 28) = w4 at *
   have HCR:=Lib.hid hcR
   have HD':=Lib.hid hd'
   clear hcR hd' b4
   have T4:=Lib.hid t4
   have P4':=Lib.hid P4
   go_wp2
   go_loopw [10,11] (fun av i wr=>∃ (k : Nat) (at' : Int),k ≤ gs.length ∧ i = .int .i64 k ∧ av = .int .i64 at' ∧ Hid (AtNum gs number k at') ∧ wr = w4) (fun _ i _=>gs.length - (intOf i).toNat)
   case atStart=>exact ⟨0,-1,by omega,rfl,rfl,AtNum.none gs number,rfl⟩
   case round=>
    obtain ⟨k,at',hk,rfl,rfl,hat,hw⟩:=hrel
    subst hw
    have p4:=P4'.out.cell
    by_cases hlt : k < gs.length
    · obtain ⟨b,off,Ab,cg,Am,cm,rfl,q0,_,_,_,_,_,_,_,_,_,_⟩:=go_at (HG.out.below T4.out) hlt
      have HWJ:=next_wrap HGM.out hlt
      have HLJ:=Lib.hid hlt
      rcases Bool.eq_false_or_eq_true (nuOf gs[k] == number) with hn | hn
      · have HY:=Lib.hid (AtNum.yes hlt (beq_iff_eq.1 hn))
        generalize nuOf gs[k] = nk at *
        go_wp2
        go_roundw
        case rel=>exact ⟨k + 1,(k : Int),HLJ.out,by first | exact round_same HWJ | go_num,rfl,HY.out,(by first | rfl | trivial)⟩
        case measure=>first | exact round_less HWJ HLJ.out | (have h:=HLJ.out;simp [intOf];omega)
      · have HY:=Lib.hid (hat.out.no hlt (fun e=>by rw [beq_eq_false_iff_ne] at hn;exact hn e))
        generalize nuOf gs[k] = nk at *
        go_wp2
        go_roundw
        case rel=>exact ⟨k + 1,at',HLJ.out,by first | exact round_same HWJ | go_num,rfl,HY.out,(by first | rfl | trivial)⟩
        case measure=>first | exact round_less HWJ HLJ.out | (have h:=HLJ.out;simp [intOf];omega)
    · have hke : k = gs.length:=by omega
      subst hke
      have hat':=hat.out
      clear hat
      rcases hat' with ⟨rfl,hnone⟩ | ⟨j,hj,rfl,hnum⟩
      · have HNO : Hid (∀ j (h : j < gs.length),¬ nuOf gs[j] = number):=fun j hj=>hnone j hj hj
        have hm1 : decide ((-1 : Int) < 0) = true:=by decide
        have z4:=Z4.cell
        have zf4:=Z4.free
        have yc4:=Y4.cell
        have yf4:=Y4.free
        clear hnone
        go_wp2
        have B5:=mbox_self (mbox_self Z4 0 (.slice none 0 0)) 1 (.slice none 0 0)
        have B6:=mbox_self (mbox_self (mbox_self (mbox_self (mbox_else (mbox_else Y4 (show w.heap.size + 3 ≠ w.heap.size + 2 by omega) 0 (.slice none 0 0)) (show w.heap.size + 3 ≠ w.heap.size + 2 by omega) 1 (.slice none 0 0)) 0 (.int .i64 0)) 1 (.int .i64 0)) 2 (.slice none 0 0)) 3 (.int .i64 0)
        have B7:=mbox_else (mbox_else (mbox_else (mbox_else B5 (show w.heap.size + 2 ≠ w.heap.size + 3 by omega) 0 (.int .i64 0)) (show w.heap.size + 2 ≠ w.heap.size + 3 by omega) 1 (.int .i64 0)) (show w.heap.size + 2 ≠ w.heap.size + 3 by omega) 2 (.slice none 0 0)) (show w.heap.size + 2 ≠ w.heap.size + 3 by omega) 3 (.int .i64 0)
        have T5:=Below.setCell (p:=⟨w.heap.size + 3,3,none⟩) (Below.setCell (p:=⟨w.heap.size + 3,2,none⟩) (Below.setCell (p:=⟨w.heap.size + 3,1,none⟩) (Below.setCell (p:=⟨w.heap.size + 3,0,none⟩) (Below.setCell (p:=⟨w.heap.size + 2,1,none⟩) (Below.setCell (p:=⟨w.heap.size + 2,0,none⟩) t4 (show w.heap.size ≤ w.heap.size + 2 by omega) (.slice none 0 0)) (show w.heap.size ≤ w.heap.size + 2 by omega) (.slice none 0 0)) (show w.heap.size ≤ w.heap.size + 3 by omega) (.int .i64 0)) (show w.heap.size ≤ w.heap.size + 3 by omega) (.int .i64 0)) (show w.heap.size ≤ w.heap.size + 3 by omega) (.slice none 0 0)) (show w.heap.size ≤ w.heap.size + 3 by omega) (.int .i64 0)
        exact bodyPost_ret (v:=.tuple #[.agg #[.slice none 0 0,.slice none 0 0],.agg #[.int .i64 0,.int .i64 0,.slice none 0 0,.int .i64 0],.int .i64 6]) (Eq.trans (results_rows3 (P:=Try.prog) (fn:=Try.f32) (p:=6) (q:=7) (u:=8) rfl _ _ (w.heap.size + 2) 28 #[.slice none 0 0,.slice none 0 0] (w.heap.size + 3) 53 #[.int .i64 0,.int .i64 0,.slice none 0 0,.int .i64 0] rfl rfl B7 B6 _ _ Try.underlying28 Try.underlying53 rfl rfl (by kernel_rfl) (by kernel_rfl)) rfl) rfl ⟨EndIs.err (.inr (.inl ⟨HOK.out,HNO.out,rfl,rfl,rfl,rfl,rfl,rfl⟩)),T5⟩
      · have hj0 : decide ((j : Int) < 0) = false:=decide_eq_false (by omega)
        obtain ⟨G,o,cells,Ab,cb',Am,cm,By',rfl,g1,g2,⟨q0,q1,q2,q3,q4,q5⟩,g3,g4⟩:=end_cut hM4.out hG4.out hBy4.out HD'.out.1 HLO4.out hj O4 HBG.out
        have HONE:=Lib.hid (HOK.out.goes j hj).1
        have HMKS:=Lib.hid (HOK.out.marks hj)
        have HERA:=Lib.hid (HOK.out.erase hj)
        have HLE : Hid ((gs.eraseIdx j).length = gs.length - 1):=List.length_eraseIdx_of_lt hj
        have HEA : Hid (endAll ys gs j = endS ((kiOf gs[j]).toNat : Int) (datOf gs[j]) (atOf gs[j]).toNat (manyOf gs[j]).toNat (marksS (mksOf gs[j]) (mksOf gs[j]).length (ys,gs.eraseIdx j))):=by
         show endAll ys gs j = _
         unfold endAll
         rw [List.getElem?_eq_getElem hj]
        have HNU : Hid (∃ h : j < gs.length,nuOf gs[j] = number):=⟨hj,hnum⟩
        generalize hgj : gs[j] = gj at *
        obtain ⟨aok1,aok2,aok3,aok4,aok5,_⟩:=askCode_0 HONE.out.2.1
        obtain ⟨a,ha⟩ : ∃ a : Nat,atOf gj = (a : Int):=⟨(atOf gj).toNat,by omega⟩
        obtain ⟨y,hy⟩ : ∃ y : Nat,manyOf gj = (y : Int):=⟨(manyOf gj).toNat,by omega⟩
        have HAYL : Hid (y ≤ 8 ∧ a + y ≤ ys.length ∧ (kBytes ((kiOf gj).toNat : Int) = true → y * 128 ≤ (datOf gj).length)):=by
         have h1:=HOK.out.len
         unfold Placed at aok2
         unfold kWant at aok3
         refine ⟨by omega,?_,fun hk=>?_⟩
         · rw [ha,hy] at aok2
           rcases aok2 with h2 | h2
           · have:=h2.2.2.2.2;omega
           · have:=h2.2.2;omega
         · rw [if_pos hk,hy] at aok3
           omega
        rw [ha,hy,Int.toNat_natCast,Int.toNat_natCast] at HEA
        rw [ha] at q2
        rw [hy] at q3
        have HHY:=Lib.hid hy
        clear aok1 aok2 aok3 aok4 aok5
        have HGJ:=Lib.hid hgj
        have HJ:=Lib.hid hj
        have HONC:=Lib.hid g3
        have HG4:=Lib.hid g4
        have HG1:=Lib.hid g1
        have HG2:=Lib.hid g2
        clear ha hy hgj hnum g3 g4
        have X6:=BoxOf.new wr #[.int .i64 (nuOf gj),.int .u8 ((kiOf gj).toNat : Int),.int .i64 (a : Int),.int .i64 (y : Int),.slice Ab (datOf gj).length cb',.slice Am (mksOf gj).length cm] 64
        have b6:=Ext.alloc (Below.refl wr.heap.size wr) (.cells #[.int .i64 (nuOf gj),.int .u8 ((kiOf gj).toNat : Int),.int .i64 (a : Int),.int .i64 (y : Int),.slice Ab (datOf gj).length cb',.slice Am (mksOf gj).length cm] 64)
        have o4:=O4.cell
        have HFW:=Lib.hid HOK.out.few
        have HOL:=Lib.hid O4.lt
        have HL4W : Hid (w.heap.size ≤ wr.heap.size):=T4.out.size
        go_upto_region 13 with fail
        clear q0 q1 q2 q3 q4 q5 o4
        obtain ⟨gx,hgx⟩ : ∃ z : Nat,z = wr.heap.size:=⟨_,rfl⟩
        have HGX:=Lib.hid hgx
        have XV:=X6.drew
        rw [← hgx] at XV ⊢
        clear hgx
        go_cut [10] (fun s10 wx=>s10 = .int .i64 j ∧ ∃ (B2 : Option Addr) (d2 : Nat),(gs.length - 1 ≤ d2 ∧ d2 ≤ maxLen) ∧ (MayS wx By' lo R ys ∧ GoS wx By' lo B2 d2 (gs.eraseIdx j) ∧ (∀ b,By' b → NewB lo wx b) ∧ RdIn wx By' (.sl .byte) (datOf gj) [.slice Ab (datOf gj).length cb'] ∧ RdIn wx By' (.sl .int) (mksOf gj) [.slice Am (mksOf gj).length cm]) ∧ BoxOf wx gO #[.slice (some ⟨R,0,none⟩) ys.length cR,.slice B2 (gs.length - 1) d2] 28 ∧ BoxOf wx gx #[.int .i64 (nuOf gj),.int .u8 ((kiOf gj).toNat : Int),.int .i64 (a : Int),.int .i64 (y : Int),.slice Ab (datOf gj).length cb',.slice Am (mksOf gj).length cm] 64 ∧ BoxOf wx (w.heap.size + 2) #[.slice none 0 0,.slice none 0 0] 28 ∧ BoxOf wx (w.heap.size + 3) #[.int .i64 0,.int .i64 0,.slice none 0 0,.int .i64 0] 53 ∧ Below w.heap.size w wx ∧ lo ≤ wx.heap.size)
        case first=>
         have OV:=(O4.next b6).drew
         have GV:=(g1.next b6).drew
         have ZV:=(Z4.next b6).drew
         have YV:=(Y4.next b6).drew
         have bv:=Ext.drew b6
         obtain ⟨j1,hj1⟩ : ∃ z,z = j + 1:=⟨_,rfl⟩
         have HJ1:=Lib.hid hj1
         have HP1 : Hid (o + j * 6 ≤ cells.size):=by have:=HG2.out;have:=HJ.out;have:=HD'.out;show _ ≤ _;omega
         have HP2 : Hid (o + (j + 1) * 6 + (gs.length - 1 - j) * 6 ≤ cells.size):=by have:=HG2.out;have:=HJ.out;have:=HD'.out;show _ ≤ _;omega
         have hwj : IntKind.i64.wrap ((j : Int) + 1) = (j1 : Int):=by have:=HFW.out;have:=HJ.out;rw [i64_fit (by omega)];omega
         have s1 : j ≤ d':=by have:=HJ.out;have:=HD'.out;omega
         have s2 : j1 ≤ gs.length:=by have:=HJ.out;omega
         have s3 : gs.length ≤ d':=HD'.out.1
         clear O4 Z4 Y4 X6 b6 hj1 C4 P4 t4 p4
         refine wp_region_held_drew (S:=fun _=>True) (by kernel_rfl) trivial (fun hS=>?_)
         generalize (wr.alloc (.cells #[.int .i64 (nuOf gj),.int .u8 ((kiOf gj).toNat : Int),.int .i64 (a : Int),.int .i64 (y : Int),.slice Ab (datOf gj).length cb',.slice Am (mksOf gj).length cm] 64)).drew = vv at *
         refine wpAnyH_take (i:=0) (v:=?_) rfl (by kernel_rfl) (by kernel_rfl) (by kernel_rfl) (fun _ _ _ h=>h) (Or.inl ⟨by rfl,?_⟩) hS ?_
         rotate_left
         · (intro w hSw;(try dsimp only at hSw);go_simp;(try with_reducible rfl))
         rotate_left
         simp only [Act.put,zq0,zq1,zq2,zq3,zq4,zq5]
         refine wpAnyH_take (i:=2) (v:=?_) rfl (by kernel_rfl) (by kernel_rfl) (by kernel_rfl) (fun _ _ _ h=>h) (Or.inl ⟨by rfl,?_⟩) hS ?_
         rotate_left
         · (intro w hSw;(try dsimp only at hSw);go_simp;(try with_reducible rfl))
         rotate_left
         simp only [Act.put,zq0,zq1,zq2,zq3,zq4,zq5]
         refine wpAnyH_take (i:=5) (v:=?_) rfl (by kernel_rfl) (by kernel_rfl) (by kernel_rfl) (fun _ _ _ h=>h) (Or.inl ⟨by rfl,?_⟩) hS ?_
         rotate_left
         · (intro w hSw;(try dsimp only at hSw);go_simp;(try with_reducible rfl))
         rotate_left
         simp only [Act.put,zq0,zq1,zq2,zq3,zq4,zq5]
         refine wpAnyH_take (i:=7) (v:=?_) rfl (by kernel_rfl) (by kernel_rfl) (by kernel_rfl) (fun _ _ _ h=>h) (Or.inl ⟨by rfl,?_⟩) hS ?_
         rotate_left
         · (intro w hSw;(try dsimp only at hSw);go_simp;(try with_reducible rfl))
         rotate_left
         simp only [Act.put,zq0,zq1,zq2,zq3,zq4,zq5]
         refine wpAnyH_take (i:=8) (v:=?_) rfl (by kernel_rfl) (by kernel_rfl) (by kernel_rfl) (fun _ _ _ h=>h) (Or.inl ⟨by rfl,?_⟩) hS ?_
         rotate_left
         · (intro w hSw;(try dsimp only at hSw);go_simp;(try with_reducible rfl))
         rotate_left
         simp only [Act.put,zq0,zq1,zq2,zq3,zq4,zq5]
         by_cases s4 : d' = j1
         · subst s4
           refine wpAnyH_ready (rs:=[1,6]) (by kernel_rfl) (by simp) ?_
           refine AllReadyH.cons rfl (fun K hK=>?_) (AllReadyH.cons rfl (fun K hK=>?_) AllReadyH.nil)
           · rw [if_pos (by rfl)]
             have yQ:=OV.cell
             go_simp
             refine hK.out _ _ trivial (fun hS'=>?_)
             clear yQ hK K hS
             have hS:=hS'
             clear hS'
             try simp only [Act.put,zq0,zq1,zq2,zq3,zq4,zq5]
             refine wpAnyH_take (i:=3) (v:=?_) rfl (by kernel_rfl) (by kernel_rfl) (by kernel_rfl) (fun _ _ _ h=>h) (Or.inl ⟨by rfl,?_⟩) hS ?_
             rotate_left
             · (intro w hSw;(try dsimp only at hSw);go_simp;(try with_reducible rfl))
             rotate_left
             simp only [Act.put,zq0,zq1,zq2,zq3,zq4,zq5]
             refine wpAnyH_ready (rs:=[4,6]) (by kernel_rfl) (by simp) ?_
             refine AllReadyH.cons rfl (fun K hK=>?_) (AllReadyH.cons rfl (fun K hK=>?_) AllReadyH.nil)
             · rw [if_pos (by rfl)]
               refine wp_append_rd _ (.const (.slice none 0 0)) (.tmp 52) 26 rfl (gx + 1) 64 ig _ 6 80 Try.underlying26 hig hg0 hg1 hg2 rfl (by decide) (.slice none 0 0) 0 [] rfl ⟨rfl,.inl ⟨rfl,rfl⟩⟩ (some ⟨G,o,none⟩) j d' ((cells.toList.drop o).take (j * 6)) rfl (part_len HP1.out) (rd_part GV HP1.out) (by have h1:=part_one (a:=0) (k:=j * 6) HONC.out (by have:=HJ.out;omega);rw [Nat.add_zero] at h1;exact h1) (by have:=HFW.out;have:=HJ.out;unfold maxLen;omega) (by have:=HFW.out;have:=HJ.out;omega) XV.lt ?_
               intro v1 w1 own1 gr1 _
               have bb:=Ext.grown (Below.refl _ _) gr1 (by simp [Value.ownBlock])
               have own1' : w1.ownsRow (gx + 1) 64 6 v1 j ((cells.toList.drop o).take (j * 6)):=by rw [Nat.zero_add,List.nil_append] at own1;exact own1
               have OV1:=OV.next bb
               have GV1:=GV.next bb
               have XV1:=XV.next bb
               have ZV1:=ZV.next bb
               have YV1:=YV.next bb
               have bv1:=Ext.trans bv bb
               refine hK.out _ _ trivial (fun hS'=>?_)
               clear hK K hS OV GV XV ZV YV bv bb own1 gr1
               have hS:=hS'
               clear hS'
               have OV:=OV1
               have GV:=GV1
               have XV:=XV1
               have ZV:=ZV1
               have YV:=YV1
               have bv:=bv1
               clear OV1 GV1 XV1 ZV1 YV1 bv1
               try simp only [Act.put,zq0,zq1,zq2,zq3,zq4,zq5]
               refine wpAnyH_ready (rs:=[6]) (by kernel_rfl) (by simp) ?_
               refine AllReadyH.cons rfl (fun K hK=>?_) AllReadyH.nil
               rw [if_pos (by rfl)]
               have yQ:=OV.cell
               go_simp
               refine hK.out _ _ trivial (fun hS'=>?_)
               clear yQ hK K hS
               have hS:=hS'
               clear hS'
               try simp only [Act.put,zq0,zq1,zq2,zq3,zq4,zq5]
               refine wpAnyH_take (i:=9) (v:=?_) rfl (by kernel_rfl) (by kernel_rfl) (by kernel_rfl) (fun _ _ _ h=>h) (Or.inl ⟨by rfl,?_⟩) hS ?_
               rotate_left
               · (intro w hSw;(try dsimp only at hSw);go_simp;(try with_reducible rfl))
               rotate_left
               simp only [Act.put,zq0,zq1,zq2,zq3,zq4,zq5]
               refine wpAnyH_ready (rs:=[10]) (by kernel_rfl) (by simp) ?_
               refine AllReadyH.cons rfl (fun K hK=>?_) AllReadyH.nil
               rw [if_pos (by rfl)]
               refine wp_append_rd _ (.tmp 53) (.tmp 58) 26 rfl (gx + 1) 64 ig _ 6 80 Try.underlying26 hig hg0 hg1 hg2 rfl (by decide) v1 j ((cells.toList.drop o).take (j * 6)) rfl own1' _ (0) _ ((cells.toList.drop (o + (j + 1) * 6)).take ((gs.length - 1 - j) * 6)) rfl (by rw [part_len HP2.out];have:=HJ1.out;have:=HJ.out;congr 1;omega) (.inl (by rw [show gs.length - 1 - j = 0 by have:=HJ1.out;omega,Nat.zero_mul,List.take_zero])) (part_one (a:=(j + 1) * 6) (k:=(gs.length - 1 - j) * 6) HONC.out (by have:=HJ.out;omega)) (by have:=HFW.out;have:=HJ.out;unfold maxLen;omega) (by have:=HFW.out;have:=HJ.out;omega) XV.lt ?_
               intro v2 w7 own2 gr2 _
               have hk1 : ∀ k,v1.ownBlock = some k → gx + 1 ≤ k:=fun k e=>own_block own1' e
               have bv2:=Below.grown bv gr2 bv.size (fun k e=>by have:=hk1 _ e;have:=HGX.out;omega)
               have own2' : w7.ownsRow wr.heap.size 64 6 v2 (gs.length - 1) ((cells.toList.drop o).take (j * 6) ++ (cells.toList.drop (o + (j + 1) * 6)).take ((gs.length - 1 - j) * 6)):=by rw [show j + (0) = gs.length - 1 by have:=HJ.out;have:=HJ1.out;omega] at own2;exact own_base own2 (by have:=HGX.out;omega)
               have OW:=OV.grown gr2 (fun e=>by have:=hk1 _ e;have:=HOL.out;have:=HGX.out;omega)
               have XW:=XV.grown gr2 (fun e=>by have:=hk1 _ e;omega)
               have ZW:=ZV.grown gr2 (fun e=>by have:=hk1 _ e;have:=HLW.out;have:=HLO4.out;have:=HGX.out;omega)
               have YW:=YV.grown gr2 (fun e=>by have:=hk1 _ e;have:=HLW.out;have:=HLO4.out;have:=HGX.out;omega)
               obtain ⟨B2,d2,rfl,e2,hfin⟩:=HG4.out w7 v2 bv2 own2'
               obtain ⟨m1,m2,m3,m4,m5⟩:=hfin (.slice B2 (gs.length - 1) d2)
               have HFN:=Lib.hid (And.intro m1 (And.intro m2 (And.intro m3 (And.intro m4 m5))))
               have HE2:=Lib.hid e2
               have HBW:=Lib.hid bv2
               refine hK.out _ _ trivial (fun hS'=>?_)
               clear hK K hS OV GV XV ZV YV bv own1' own2 own2' gr2 hfin m1 m2 m3 m4 m5 hk1 e2
               have hS:=hS'
               clear hS'
               try simp only [Act.put,zq0,zq1,zq2,zq3,zq4,zq5]
               refine wpAnyH_take (i:=11) (v:=?_) rfl (by kernel_rfl) (by kernel_rfl) (by kernel_rfl) (fun _ _ _ h=>h) (Or.inl ⟨by rfl,?_⟩) hS ?_
               rotate_left
               · (intro w hSw;(try dsimp only at hSw);go_simp;(try with_reducible rfl))
               rotate_left
               simp only [Act.put,zq0,zq1,zq2,zq3,zq4,zq5]
               refine wpAnyH_ready (rs:=[12]) (by kernel_rfl) (by simp) ?_
               refine AllReadyH.cons rfl (fun K hK=>?_) AllReadyH.nil
               rw [if_pos (by rfl)]
               have oW:=OW.cell
               have oF:=OW.free
               go_simp
               refine hK.out _ _ trivial (fun hS'=>?_)
               clear hK K hS hS' oW oF
               try simp only [Act.put,zq0,zq1,zq2,zq3,zq4,zq5]
               refine wpAnyH_done (by kernel_rfl) ?_ _
               have OX:=Lib.hid (mbox_self OW 1 (.slice B2 (gs.length - 1) d2))
               have XX:=Lib.hid (mbox_else XW (show gx ≠ gO by have:=HGX.out;have:=HOL.out;omega) 1 (.slice B2 (gs.length - 1) d2))
               have ZX:=Lib.hid (mbox_else ZW (show w.heap.size + 2 ≠ gO by have:=HLW.out;have:=HGO.out;omega) 1 (.slice B2 (gs.length - 1) d2))
               have YX:=Lib.hid (mbox_else YW (show w.heap.size + 3 ≠ gO by have:=HLW.out;have:=HGO.out;omega) 1 (.slice B2 (gs.length - 1) d2))
               have TX:=Lib.hid (Below.setCell (p:=⟨gO,1,none⟩) (Below.trans T4.out (HBW.out.mono HL4W.out)) (show w.heap.size ≤ gO by have:=HLW.out;have:=HGO.out;omega) (.slice B2 (gs.length - 1) d2))
               have LX : Hid (lo ≤ (w7.setCell ⟨gO,1,none⟩ (.slice B2 (gs.length - 1) d2)).heap.size):=by show _ ≤ _;rw [msize];exact Nat.le_trans HLO4.out HBW.out.size
               clear OW XW ZW YW
               go_wp2_with fail
               go_meet
               exact ⟨rfl,B2,d2,HE2.out,HFN.out,OX.out,XX.out,ZX.out,YX.out,TX.out,LX.out⟩
             · rw [if_pos (by rfl)]
               have yQ:=OV.cell
               go_simp
               refine hK.out _ _ trivial (fun hS'=>?_)
               clear yQ hK K hS
               have hS:=hS'
               clear hS'
               try simp only [Act.put,zq0,zq1,zq2,zq3,zq4,zq5]
               refine wpAnyH_take (i:=9) (v:=?_) rfl (by kernel_rfl) (by kernel_rfl) (by kernel_rfl) (fun _ _ _ h=>h) (Or.inl ⟨by rfl,?_⟩) hS ?_
               rotate_left
               · (intro w hSw;(try dsimp only at hSw);go_simp;(try with_reducible rfl))
               rotate_left
               simp only [Act.put,zq0,zq1,zq2,zq3,zq4,zq5]
               refine wpAnyH_ready (rs:=[4]) (by kernel_rfl) (by simp) ?_
               refine AllReadyH.cons rfl (fun K hK=>?_) AllReadyH.nil
               rw [if_pos (by rfl)]
               refine wp_append_rd _ (.const (.slice none 0 0)) (.tmp 52) 26 rfl (gx + 1) 64 ig _ 6 80 Try.underlying26 hig hg0 hg1 hg2 rfl (by decide) (.slice none 0 0) 0 [] rfl ⟨rfl,.inl ⟨rfl,rfl⟩⟩ (some ⟨G,o,none⟩) j d' ((cells.toList.drop o).take (j * 6)) rfl (part_len HP1.out) (rd_part GV HP1.out) (by have h1:=part_one (a:=0) (k:=j * 6) HONC.out (by have:=HJ.out;omega);rw [Nat.add_zero] at h1;exact h1) (by have:=HFW.out;have:=HJ.out;unfold maxLen;omega) (by have:=HFW.out;have:=HJ.out;omega) XV.lt ?_
               intro v1 w1 own1 gr1 _
               have bb:=Ext.grown (Below.refl _ _) gr1 (by simp [Value.ownBlock])
               have own1' : w1.ownsRow (gx + 1) 64 6 v1 j ((cells.toList.drop o).take (j * 6)):=by rw [Nat.zero_add,List.nil_append] at own1;exact own1
               have OV1:=OV.next bb
               have GV1:=GV.next bb
               have XV1:=XV.next bb
               have ZV1:=ZV.next bb
               have YV1:=YV.next bb
               have bv1:=Ext.trans bv bb
               refine hK.out _ _ trivial (fun hS'=>?_)
               clear hK K hS OV GV XV ZV YV bv bb own1 gr1
               have hS:=hS'
               clear hS'
               have OV:=OV1
               have GV:=GV1
               have XV:=XV1
               have ZV:=ZV1
               have YV:=YV1
               have bv:=bv1
               clear OV1 GV1 XV1 ZV1 YV1 bv1
               try simp only [Act.put,zq0,zq1,zq2,zq3,zq4,zq5]
               refine wpAnyH_ready (rs:=[10]) (by kernel_rfl) (by simp) ?_
               refine AllReadyH.cons rfl (fun K hK=>?_) AllReadyH.nil
               rw [if_pos (by rfl)]
               refine wp_append_rd _ (.tmp 53) (.tmp 58) 26 rfl (gx + 1) 64 ig _ 6 80 Try.underlying26 hig hg0 hg1 hg2 rfl (by decide) v1 j ((cells.toList.drop o).take (j * 6)) rfl own1' _ (0) _ ((cells.toList.drop (o + (j + 1) * 6)).take ((gs.length - 1 - j) * 6)) rfl (by rw [part_len HP2.out];have:=HJ1.out;have:=HJ.out;congr 1;omega) (.inl (by rw [show gs.length - 1 - j = 0 by have:=HJ1.out;omega,Nat.zero_mul,List.take_zero])) (part_one (a:=(j + 1) * 6) (k:=(gs.length - 1 - j) * 6) HONC.out (by have:=HJ.out;omega)) (by have:=HFW.out;have:=HJ.out;unfold maxLen;omega) (by have:=HFW.out;have:=HJ.out;omega) XV.lt ?_
               intro v2 w7 own2 gr2 _
               have hk1 : ∀ k,v1.ownBlock = some k → gx + 1 ≤ k:=fun k e=>own_block own1' e
               have bv2:=Below.grown bv gr2 bv.size (fun k e=>by have:=hk1 _ e;have:=HGX.out;omega)
               have own2' : w7.ownsRow wr.heap.size 64 6 v2 (gs.length - 1) ((cells.toList.drop o).take (j * 6) ++ (cells.toList.drop (o + (j + 1) * 6)).take ((gs.length - 1 - j) * 6)):=by rw [show j + (0) = gs.length - 1 by have:=HJ.out;have:=HJ1.out;omega] at own2;exact own_base own2 (by have:=HGX.out;omega)
               have OW:=OV.grown gr2 (fun e=>by have:=hk1 _ e;have:=HOL.out;have:=HGX.out;omega)
               have XW:=XV.grown gr2 (fun e=>by have:=hk1 _ e;omega)
               have ZW:=ZV.grown gr2 (fun e=>by have:=hk1 _ e;have:=HLW.out;have:=HLO4.out;have:=HGX.out;omega)
               have YW:=YV.grown gr2 (fun e=>by have:=hk1 _ e;have:=HLW.out;have:=HLO4.out;have:=HGX.out;omega)
               obtain ⟨B2,d2,rfl,e2,hfin⟩:=HG4.out w7 v2 bv2 own2'
               obtain ⟨m1,m2,m3,m4,m5⟩:=hfin (.slice B2 (gs.length - 1) d2)
               have HFN:=Lib.hid (And.intro m1 (And.intro m2 (And.intro m3 (And.intro m4 m5))))
               have HE2:=Lib.hid e2
               have HBW:=Lib.hid bv2
               refine hK.out _ _ trivial (fun hS'=>?_)
               clear hK K hS OV GV XV ZV YV bv own1' own2 own2' gr2 hfin m1 m2 m3 m4 m5 hk1 e2
               have hS:=hS'
               clear hS'
               try simp only [Act.put,zq0,zq1,zq2,zq3,zq4,zq5]
               refine wpAnyH_take (i:=11) (v:=?_) rfl (by kernel_rfl) (by kernel_rfl) (by kernel_rfl) (fun _ _ _ h=>h) (Or.inl ⟨by rfl,?_⟩) hS ?_
               rotate_left
               · (intro w hSw;(try dsimp only at hSw);go_simp;(try with_reducible rfl))
               rotate_left
               simp only [Act.put,zq0,zq1,zq2,zq3,zq4,zq5]
               refine wpAnyH_ready (rs:=[12]) (by kernel_rfl) (by simp) ?_
               refine AllReadyH.cons rfl (fun K hK=>?_) AllReadyH.nil
               rw [if_pos (by rfl)]
               have oW:=OW.cell
               have oF:=OW.free
               go_simp
               refine hK.out _ _ trivial (fun hS'=>?_)
               clear hK K hS hS' oW oF
               try simp only [Act.put,zq0,zq1,zq2,zq3,zq4,zq5]
               refine wpAnyH_done (by kernel_rfl) ?_ _
               have OX:=Lib.hid (mbox_self OW 1 (.slice B2 (gs.length - 1) d2))
               have XX:=Lib.hid (mbox_else XW (show gx ≠ gO by have:=HGX.out;have:=HOL.out;omega) 1 (.slice B2 (gs.length - 1) d2))
               have ZX:=Lib.hid (mbox_else ZW (show w.heap.size + 2 ≠ gO by have:=HLW.out;have:=HGO.out;omega) 1 (.slice B2 (gs.length - 1) d2))
               have YX:=Lib.hid (mbox_else YW (show w.heap.size + 3 ≠ gO by have:=HLW.out;have:=HGO.out;omega) 1 (.slice B2 (gs.length - 1) d2))
               have TX:=Lib.hid (Below.setCell (p:=⟨gO,1,none⟩) (Below.trans T4.out (HBW.out.mono HL4W.out)) (show w.heap.size ≤ gO by have:=HLW.out;have:=HGO.out;omega) (.slice B2 (gs.length - 1) d2))
               have LX : Hid (lo ≤ (w7.setCell ⟨gO,1,none⟩ (.slice B2 (gs.length - 1) d2)).heap.size):=by show _ ≤ _;rw [msize];exact Nat.le_trans HLO4.out HBW.out.size
               clear OW XW ZW YW
               go_wp2_with fail
               go_meet
               exact ⟨rfl,B2,d2,HE2.out,HFN.out,OX.out,XX.out,ZX.out,YX.out,TX.out,LX.out⟩
           · rw [if_pos (by rfl)]
             have yQ:=OV.cell
             go_simp
             refine hK.out _ _ trivial (fun hS'=>?_)
             clear yQ hK K hS
             have hS:=hS'
             clear hS'
             try simp only [Act.put,zq0,zq1,zq2,zq3,zq4,zq5]
             refine wpAnyH_take (i:=9) (v:=?_) rfl (by kernel_rfl) (by kernel_rfl) (by kernel_rfl) (fun _ _ _ h=>h) (Or.inl ⟨by rfl,?_⟩) hS ?_
             rotate_left
             · (intro w hSw;(try dsimp only at hSw);go_simp;(try with_reducible rfl))
             rotate_left
             simp only [Act.put,zq0,zq1,zq2,zq3,zq4,zq5]
             refine wpAnyH_ready (rs:=[1]) (by kernel_rfl) (by simp) ?_
             refine AllReadyH.cons rfl (fun K hK=>?_) AllReadyH.nil
             rw [if_pos (by rfl)]
             have yQ:=OV.cell
             go_simp
             refine hK.out _ _ trivial (fun hS'=>?_)
             clear yQ hK K hS
             have hS:=hS'
             clear hS'
             try simp only [Act.put,zq0,zq1,zq2,zq3,zq4,zq5]
             refine wpAnyH_take (i:=3) (v:=?_) rfl (by kernel_rfl) (by kernel_rfl) (by kernel_rfl) (fun _ _ _ h=>h) (Or.inl ⟨by rfl,?_⟩) hS ?_
             rotate_left
             · (intro w hSw;(try dsimp only at hSw);go_simp;(try with_reducible rfl))
             rotate_left
             simp only [Act.put,zq0,zq1,zq2,zq3,zq4,zq5]
             refine wpAnyH_ready (rs:=[4]) (by kernel_rfl) (by simp) ?_
             refine AllReadyH.cons rfl (fun K hK=>?_) AllReadyH.nil
             rw [if_pos (by rfl)]
             refine wp_append_rd _ (.const (.slice none 0 0)) (.tmp 52) 26 rfl (gx + 1) 64 ig _ 6 80 Try.underlying26 hig hg0 hg1 hg2 rfl (by decide) (.slice none 0 0) 0 [] rfl ⟨rfl,.inl ⟨rfl,rfl⟩⟩ (some ⟨G,o,none⟩) j d' ((cells.toList.drop o).take (j * 6)) rfl (part_len HP1.out) (rd_part GV HP1.out) (by have h1:=part_one (a:=0) (k:=j * 6) HONC.out (by have:=HJ.out;omega);rw [Nat.add_zero] at h1;exact h1) (by have:=HFW.out;have:=HJ.out;unfold maxLen;omega) (by have:=HFW.out;have:=HJ.out;omega) XV.lt ?_
             intro v1 w1 own1 gr1 _
             have bb:=Ext.grown (Below.refl _ _) gr1 (by simp [Value.ownBlock])
             have own1' : w1.ownsRow (gx + 1) 64 6 v1 j ((cells.toList.drop o).take (j * 6)):=by rw [Nat.zero_add,List.nil_append] at own1;exact own1
             have OV1:=OV.next bb
             have GV1:=GV.next bb
             have XV1:=XV.next bb
             have ZV1:=ZV.next bb
             have YV1:=YV.next bb
             have bv1:=Ext.trans bv bb
             refine hK.out _ _ trivial (fun hS'=>?_)
             clear hK K hS OV GV XV ZV YV bv bb own1 gr1
             have hS:=hS'
             clear hS'
             have OV:=OV1
             have GV:=GV1
             have XV:=XV1
             have ZV:=ZV1
             have YV:=YV1
             have bv:=bv1
             clear OV1 GV1 XV1 ZV1 YV1 bv1
             try simp only [Act.put,zq0,zq1,zq2,zq3,zq4,zq5]
             refine wpAnyH_ready (rs:=[10]) (by kernel_rfl) (by simp) ?_
             refine AllReadyH.cons rfl (fun K hK=>?_) AllReadyH.nil
             rw [if_pos (by rfl)]
             refine wp_append_rd _ (.tmp 53) (.tmp 58) 26 rfl (gx + 1) 64 ig _ 6 80 Try.underlying26 hig hg0 hg1 hg2 rfl (by decide) v1 j ((cells.toList.drop o).take (j * 6)) rfl own1' _ (0) _ ((cells.toList.drop (o + (j + 1) * 6)).take ((gs.length - 1 - j) * 6)) rfl (by rw [part_len HP2.out];have:=HJ1.out;have:=HJ.out;congr 1;omega) (.inl (by rw [show gs.length - 1 - j = 0 by have:=HJ1.out;omega,Nat.zero_mul,List.take_zero])) (part_one (a:=(j + 1) * 6) (k:=(gs.length - 1 - j) * 6) HONC.out (by have:=HJ.out;omega)) (by have:=HFW.out;have:=HJ.out;unfold maxLen;omega) (by have:=HFW.out;have:=HJ.out;omega) XV.lt ?_
             intro v2 w7 own2 gr2 _
             have hk1 : ∀ k,v1.ownBlock = some k → gx + 1 ≤ k:=fun k e=>own_block own1' e
             have bv2:=Below.grown bv gr2 bv.size (fun k e=>by have:=hk1 _ e;have:=HGX.out;omega)
             have own2' : w7.ownsRow wr.heap.size 64 6 v2 (gs.length - 1) ((cells.toList.drop o).take (j * 6) ++ (cells.toList.drop (o + (j + 1) * 6)).take ((gs.length - 1 - j) * 6)):=by rw [show j + (0) = gs.length - 1 by have:=HJ.out;have:=HJ1.out;omega] at own2;exact own_base own2 (by have:=HGX.out;omega)
             have OW:=OV.grown gr2 (fun e=>by have:=hk1 _ e;have:=HOL.out;have:=HGX.out;omega)
             have XW:=XV.grown gr2 (fun e=>by have:=hk1 _ e;omega)
             have ZW:=ZV.grown gr2 (fun e=>by have:=hk1 _ e;have:=HLW.out;have:=HLO4.out;have:=HGX.out;omega)
             have YW:=YV.grown gr2 (fun e=>by have:=hk1 _ e;have:=HLW.out;have:=HLO4.out;have:=HGX.out;omega)
             obtain ⟨B2,d2,rfl,e2,hfin⟩:=HG4.out w7 v2 bv2 own2'
             obtain ⟨m1,m2,m3,m4,m5⟩:=hfin (.slice B2 (gs.length - 1) d2)
             have HFN:=Lib.hid (And.intro m1 (And.intro m2 (And.intro m3 (And.intro m4 m5))))
             have HE2:=Lib.hid e2
             have HBW:=Lib.hid bv2
             refine hK.out _ _ trivial (fun hS'=>?_)
             clear hK K hS OV GV XV ZV YV bv own1' own2 own2' gr2 hfin m1 m2 m3 m4 m5 hk1 e2
             have hS:=hS'
             clear hS'
             try simp only [Act.put,zq0,zq1,zq2,zq3,zq4,zq5]
             refine wpAnyH_take (i:=11) (v:=?_) rfl (by kernel_rfl) (by kernel_rfl) (by kernel_rfl) (fun _ _ _ h=>h) (Or.inl ⟨by rfl,?_⟩) hS ?_
             rotate_left
             · (intro w hSw;(try dsimp only at hSw);go_simp;(try with_reducible rfl))
             rotate_left
             simp only [Act.put,zq0,zq1,zq2,zq3,zq4,zq5]
             refine wpAnyH_ready (rs:=[12]) (by kernel_rfl) (by simp) ?_
             refine AllReadyH.cons rfl (fun K hK=>?_) AllReadyH.nil
             rw [if_pos (by rfl)]
             have oW:=OW.cell
             have oF:=OW.free
             go_simp
             refine hK.out _ _ trivial (fun hS'=>?_)
             clear hK K hS hS' oW oF
             try simp only [Act.put,zq0,zq1,zq2,zq3,zq4,zq5]
             refine wpAnyH_done (by kernel_rfl) ?_ _
             have OX:=Lib.hid (mbox_self OW 1 (.slice B2 (gs.length - 1) d2))
             have XX:=Lib.hid (mbox_else XW (show gx ≠ gO by have:=HGX.out;have:=HOL.out;omega) 1 (.slice B2 (gs.length - 1) d2))
             have ZX:=Lib.hid (mbox_else ZW (show w.heap.size + 2 ≠ gO by have:=HLW.out;have:=HGO.out;omega) 1 (.slice B2 (gs.length - 1) d2))
             have YX:=Lib.hid (mbox_else YW (show w.heap.size + 3 ≠ gO by have:=HLW.out;have:=HGO.out;omega) 1 (.slice B2 (gs.length - 1) d2))
             have TX:=Lib.hid (Below.setCell (p:=⟨gO,1,none⟩) (Below.trans T4.out (HBW.out.mono HL4W.out)) (show w.heap.size ≤ gO by have:=HLW.out;have:=HGO.out;omega) (.slice B2 (gs.length - 1) d2))
             have LX : Hid (lo ≤ (w7.setCell ⟨gO,1,none⟩ (.slice B2 (gs.length - 1) d2)).heap.size):=by show _ ≤ _;rw [msize];exact Nat.le_trans HLO4.out HBW.out.size
             clear OW XW ZW YW
             go_wp2_with fail
             go_meet
             exact ⟨rfl,B2,d2,HE2.out,HFN.out,OX.out,XX.out,ZX.out,YX.out,TX.out,LX.out⟩
         · skip
           refine wpAnyH_ready (rs:=[1,6]) (by kernel_rfl) (by simp) ?_
           refine AllReadyH.cons rfl (fun K hK=>?_) (AllReadyH.cons rfl (fun K hK=>?_) AllReadyH.nil)
           · rw [if_pos (by rfl)]
             have yQ:=OV.cell
             go_simp
             refine hK.out _ _ trivial (fun hS'=>?_)
             clear yQ hK K hS
             have hS:=hS'
             clear hS'
             try simp only [Act.put,zq0,zq1,zq2,zq3,zq4,zq5]
             refine wpAnyH_take (i:=3) (v:=?_) rfl (by kernel_rfl) (by kernel_rfl) (by kernel_rfl) (fun _ _ _ h=>h) (Or.inl ⟨by rfl,?_⟩) hS ?_
             rotate_left
             · (intro w hSw;(try dsimp only at hSw);go_simp;(try with_reducible rfl))
             rotate_left
             simp only [Act.put,zq0,zq1,zq2,zq3,zq4,zq5]
             refine wpAnyH_ready (rs:=[4,6]) (by kernel_rfl) (by simp) ?_
             refine AllReadyH.cons rfl (fun K hK=>?_) (AllReadyH.cons rfl (fun K hK=>?_) AllReadyH.nil)
             · rw [if_pos (by rfl)]
               refine wp_append_rd _ (.const (.slice none 0 0)) (.tmp 52) 26 rfl (gx + 1) 64 ig _ 6 80 Try.underlying26 hig hg0 hg1 hg2 rfl (by decide) (.slice none 0 0) 0 [] rfl ⟨rfl,.inl ⟨rfl,rfl⟩⟩ (some ⟨G,o,none⟩) j d' ((cells.toList.drop o).take (j * 6)) rfl (part_len HP1.out) (rd_part GV HP1.out) (by have h1:=part_one (a:=0) (k:=j * 6) HONC.out (by have:=HJ.out;omega);rw [Nat.add_zero] at h1;exact h1) (by have:=HFW.out;have:=HJ.out;unfold maxLen;omega) (by have:=HFW.out;have:=HJ.out;omega) XV.lt ?_
               intro v1 w1 own1 gr1 _
               have bb:=Ext.grown (Below.refl _ _) gr1 (by simp [Value.ownBlock])
               have own1' : w1.ownsRow (gx + 1) 64 6 v1 j ((cells.toList.drop o).take (j * 6)):=by rw [Nat.zero_add,List.nil_append] at own1;exact own1
               have OV1:=OV.next bb
               have GV1:=GV.next bb
               have XV1:=XV.next bb
               have ZV1:=ZV.next bb
               have YV1:=YV.next bb
               have bv1:=Ext.trans bv bb
               refine hK.out _ _ trivial (fun hS'=>?_)
               clear hK K hS OV GV XV ZV YV bv bb own1 gr1
               have hS:=hS'
               clear hS'
               have OV:=OV1
               have GV:=GV1
               have XV:=XV1
               have ZV:=ZV1
               have YV:=YV1
               have bv:=bv1
               clear OV1 GV1 XV1 ZV1 YV1 bv1
               try simp only [Act.put,zq0,zq1,zq2,zq3,zq4,zq5]
               refine wpAnyH_ready (rs:=[6]) (by kernel_rfl) (by simp) ?_
               refine AllReadyH.cons rfl (fun K hK=>?_) AllReadyH.nil
               rw [if_pos (by rfl)]
               have yQ:=OV.cell
               go_simp
               refine hK.out _ _ trivial (fun hS'=>?_)
               clear yQ hK K hS
               have hS:=hS'
               clear hS'
               try simp only [Act.put,zq0,zq1,zq2,zq3,zq4,zq5]
               refine wpAnyH_take (i:=9) (v:=?_) rfl (by kernel_rfl) (by kernel_rfl) (by kernel_rfl) (fun _ _ _ h=>h) (Or.inl ⟨by rfl,?_⟩) hS ?_
               rotate_left
               · (intro w hSw;(try dsimp only at hSw);go_simp;(try with_reducible rfl))
               rotate_left
               simp only [Act.put,zq0,zq1,zq2,zq3,zq4,zq5]
               refine wpAnyH_ready (rs:=[10]) (by kernel_rfl) (by simp) ?_
               refine AllReadyH.cons rfl (fun K hK=>?_) AllReadyH.nil
               rw [if_pos (by rfl)]
               refine wp_append_rd _ (.tmp 53) (.tmp 58) 26 rfl (gx + 1) 64 ig _ 6 80 Try.underlying26 hig hg0 hg1 hg2 rfl (by decide) v1 j ((cells.toList.drop o).take (j * 6)) rfl own1' _ (gs.length - j1) _ ((cells.toList.drop (o + (j + 1) * 6)).take ((gs.length - 1 - j) * 6)) rfl (by rw [part_len HP2.out];have:=HJ1.out;have:=HJ.out;congr 1;omega) (by have h1:=rd_part GV HP2.out;rw [← HJ1.out] at h1 ⊢;exact h1) (part_one (a:=(j + 1) * 6) (k:=(gs.length - 1 - j) * 6) HONC.out (by have:=HJ.out;omega)) (by have:=HFW.out;have:=HJ.out;unfold maxLen;omega) (by have:=HFW.out;have:=HJ.out;omega) XV.lt ?_
               intro v2 w7 own2 gr2 _
               have hk1 : ∀ k,v1.ownBlock = some k → gx + 1 ≤ k:=fun k e=>own_block own1' e
               have bv2:=Below.grown bv gr2 bv.size (fun k e=>by have:=hk1 _ e;have:=HGX.out;omega)
               have own2' : w7.ownsRow wr.heap.size 64 6 v2 (gs.length - 1) ((cells.toList.drop o).take (j * 6) ++ (cells.toList.drop (o + (j + 1) * 6)).take ((gs.length - 1 - j) * 6)):=by rw [show j + (gs.length - j1) = gs.length - 1 by have:=HJ.out;have:=HJ1.out;omega] at own2;exact own_base own2 (by have:=HGX.out;omega)
               have OW:=OV.grown gr2 (fun e=>by have:=hk1 _ e;have:=HOL.out;have:=HGX.out;omega)
               have XW:=XV.grown gr2 (fun e=>by have:=hk1 _ e;omega)
               have ZW:=ZV.grown gr2 (fun e=>by have:=hk1 _ e;have:=HLW.out;have:=HLO4.out;have:=HGX.out;omega)
               have YW:=YV.grown gr2 (fun e=>by have:=hk1 _ e;have:=HLW.out;have:=HLO4.out;have:=HGX.out;omega)
               obtain ⟨B2,d2,rfl,e2,hfin⟩:=HG4.out w7 v2 bv2 own2'
               obtain ⟨m1,m2,m3,m4,m5⟩:=hfin (.slice B2 (gs.length - 1) d2)
               have HFN:=Lib.hid (And.intro m1 (And.intro m2 (And.intro m3 (And.intro m4 m5))))
               have HE2:=Lib.hid e2
               have HBW:=Lib.hid bv2
               refine hK.out _ _ trivial (fun hS'=>?_)
               clear hK K hS OV GV XV ZV YV bv own1' own2 own2' gr2 hfin m1 m2 m3 m4 m5 hk1 e2
               have hS:=hS'
               clear hS'
               try simp only [Act.put,zq0,zq1,zq2,zq3,zq4,zq5]
               refine wpAnyH_take (i:=11) (v:=?_) rfl (by kernel_rfl) (by kernel_rfl) (by kernel_rfl) (fun _ _ _ h=>h) (Or.inl ⟨by rfl,?_⟩) hS ?_
               rotate_left
               · (intro w hSw;(try dsimp only at hSw);go_simp;(try with_reducible rfl))
               rotate_left
               simp only [Act.put,zq0,zq1,zq2,zq3,zq4,zq5]
               refine wpAnyH_ready (rs:=[12]) (by kernel_rfl) (by simp) ?_
               refine AllReadyH.cons rfl (fun K hK=>?_) AllReadyH.nil
               rw [if_pos (by rfl)]
               have oW:=OW.cell
               have oF:=OW.free
               go_simp
               refine hK.out _ _ trivial (fun hS'=>?_)
               clear hK K hS hS' oW oF
               try simp only [Act.put,zq0,zq1,zq2,zq3,zq4,zq5]
               refine wpAnyH_done (by kernel_rfl) ?_ _
               have OX:=Lib.hid (mbox_self OW 1 (.slice B2 (gs.length - 1) d2))
               have XX:=Lib.hid (mbox_else XW (show gx ≠ gO by have:=HGX.out;have:=HOL.out;omega) 1 (.slice B2 (gs.length - 1) d2))
               have ZX:=Lib.hid (mbox_else ZW (show w.heap.size + 2 ≠ gO by have:=HLW.out;have:=HGO.out;omega) 1 (.slice B2 (gs.length - 1) d2))
               have YX:=Lib.hid (mbox_else YW (show w.heap.size + 3 ≠ gO by have:=HLW.out;have:=HGO.out;omega) 1 (.slice B2 (gs.length - 1) d2))
               have TX:=Lib.hid (Below.setCell (p:=⟨gO,1,none⟩) (Below.trans T4.out (HBW.out.mono HL4W.out)) (show w.heap.size ≤ gO by have:=HLW.out;have:=HGO.out;omega) (.slice B2 (gs.length - 1) d2))
               have LX : Hid (lo ≤ (w7.setCell ⟨gO,1,none⟩ (.slice B2 (gs.length - 1) d2)).heap.size):=by show _ ≤ _;rw [msize];exact Nat.le_trans HLO4.out HBW.out.size
               clear OW XW ZW YW
               go_wp2_with fail
               go_meet
               exact ⟨rfl,B2,d2,HE2.out,HFN.out,OX.out,XX.out,ZX.out,YX.out,TX.out,LX.out⟩
             · rw [if_pos (by rfl)]
               have yQ:=OV.cell
               go_simp
               refine hK.out _ _ trivial (fun hS'=>?_)
               clear yQ hK K hS
               have hS:=hS'
               clear hS'
               try simp only [Act.put,zq0,zq1,zq2,zq3,zq4,zq5]
               refine wpAnyH_take (i:=9) (v:=?_) rfl (by kernel_rfl) (by kernel_rfl) (by kernel_rfl) (fun _ _ _ h=>h) (Or.inl ⟨by rfl,?_⟩) hS ?_
               rotate_left
               · (intro w hSw;(try dsimp only at hSw);go_simp;(try with_reducible rfl))
               rotate_left
               simp only [Act.put,zq0,zq1,zq2,zq3,zq4,zq5]
               refine wpAnyH_ready (rs:=[4]) (by kernel_rfl) (by simp) ?_
               refine AllReadyH.cons rfl (fun K hK=>?_) AllReadyH.nil
               rw [if_pos (by rfl)]
               refine wp_append_rd _ (.const (.slice none 0 0)) (.tmp 52) 26 rfl (gx + 1) 64 ig _ 6 80 Try.underlying26 hig hg0 hg1 hg2 rfl (by decide) (.slice none 0 0) 0 [] rfl ⟨rfl,.inl ⟨rfl,rfl⟩⟩ (some ⟨G,o,none⟩) j d' ((cells.toList.drop o).take (j * 6)) rfl (part_len HP1.out) (rd_part GV HP1.out) (by have h1:=part_one (a:=0) (k:=j * 6) HONC.out (by have:=HJ.out;omega);rw [Nat.add_zero] at h1;exact h1) (by have:=HFW.out;have:=HJ.out;unfold maxLen;omega) (by have:=HFW.out;have:=HJ.out;omega) XV.lt ?_
               intro v1 w1 own1 gr1 _
               have bb:=Ext.grown (Below.refl _ _) gr1 (by simp [Value.ownBlock])
               have own1' : w1.ownsRow (gx + 1) 64 6 v1 j ((cells.toList.drop o).take (j * 6)):=by rw [Nat.zero_add,List.nil_append] at own1;exact own1
               have OV1:=OV.next bb
               have GV1:=GV.next bb
               have XV1:=XV.next bb
               have ZV1:=ZV.next bb
               have YV1:=YV.next bb
               have bv1:=Ext.trans bv bb
               refine hK.out _ _ trivial (fun hS'=>?_)
               clear hK K hS OV GV XV ZV YV bv bb own1 gr1
               have hS:=hS'
               clear hS'
               have OV:=OV1
               have GV:=GV1
               have XV:=XV1
               have ZV:=ZV1
               have YV:=YV1
               have bv:=bv1
               clear OV1 GV1 XV1 ZV1 YV1 bv1
               try simp only [Act.put,zq0,zq1,zq2,zq3,zq4,zq5]
               refine wpAnyH_ready (rs:=[10]) (by kernel_rfl) (by simp) ?_
               refine AllReadyH.cons rfl (fun K hK=>?_) AllReadyH.nil
               rw [if_pos (by rfl)]
               refine wp_append_rd _ (.tmp 53) (.tmp 58) 26 rfl (gx + 1) 64 ig _ 6 80 Try.underlying26 hig hg0 hg1 hg2 rfl (by decide) v1 j ((cells.toList.drop o).take (j * 6)) rfl own1' _ (gs.length - j1) _ ((cells.toList.drop (o + (j + 1) * 6)).take ((gs.length - 1 - j) * 6)) rfl (by rw [part_len HP2.out];have:=HJ1.out;have:=HJ.out;congr 1;omega) (by have h1:=rd_part GV HP2.out;rw [← HJ1.out] at h1 ⊢;exact h1) (part_one (a:=(j + 1) * 6) (k:=(gs.length - 1 - j) * 6) HONC.out (by have:=HJ.out;omega)) (by have:=HFW.out;have:=HJ.out;unfold maxLen;omega) (by have:=HFW.out;have:=HJ.out;omega) XV.lt ?_
               intro v2 w7 own2 gr2 _
               have hk1 : ∀ k,v1.ownBlock = some k → gx + 1 ≤ k:=fun k e=>own_block own1' e
               have bv2:=Below.grown bv gr2 bv.size (fun k e=>by have:=hk1 _ e;have:=HGX.out;omega)
               have own2' : w7.ownsRow wr.heap.size 64 6 v2 (gs.length - 1) ((cells.toList.drop o).take (j * 6) ++ (cells.toList.drop (o + (j + 1) * 6)).take ((gs.length - 1 - j) * 6)):=by rw [show j + (gs.length - j1) = gs.length - 1 by have:=HJ.out;have:=HJ1.out;omega] at own2;exact own_base own2 (by have:=HGX.out;omega)
               have OW:=OV.grown gr2 (fun e=>by have:=hk1 _ e;have:=HOL.out;have:=HGX.out;omega)
               have XW:=XV.grown gr2 (fun e=>by have:=hk1 _ e;omega)
               have ZW:=ZV.grown gr2 (fun e=>by have:=hk1 _ e;have:=HLW.out;have:=HLO4.out;have:=HGX.out;omega)
               have YW:=YV.grown gr2 (fun e=>by have:=hk1 _ e;have:=HLW.out;have:=HLO4.out;have:=HGX.out;omega)
               obtain ⟨B2,d2,rfl,e2,hfin⟩:=HG4.out w7 v2 bv2 own2'
               obtain ⟨m1,m2,m3,m4,m5⟩:=hfin (.slice B2 (gs.length - 1) d2)
               have HFN:=Lib.hid (And.intro m1 (And.intro m2 (And.intro m3 (And.intro m4 m5))))
               have HE2:=Lib.hid e2
               have HBW:=Lib.hid bv2
               refine hK.out _ _ trivial (fun hS'=>?_)
               clear hK K hS OV GV XV ZV YV bv own1' own2 own2' gr2 hfin m1 m2 m3 m4 m5 hk1 e2
               have hS:=hS'
               clear hS'
               try simp only [Act.put,zq0,zq1,zq2,zq3,zq4,zq5]
               refine wpAnyH_take (i:=11) (v:=?_) rfl (by kernel_rfl) (by kernel_rfl) (by kernel_rfl) (fun _ _ _ h=>h) (Or.inl ⟨by rfl,?_⟩) hS ?_
               rotate_left
               · (intro w hSw;(try dsimp only at hSw);go_simp;(try with_reducible rfl))
               rotate_left
               simp only [Act.put,zq0,zq1,zq2,zq3,zq4,zq5]
               refine wpAnyH_ready (rs:=[12]) (by kernel_rfl) (by simp) ?_
               refine AllReadyH.cons rfl (fun K hK=>?_) AllReadyH.nil
               rw [if_pos (by rfl)]
               have oW:=OW.cell
               have oF:=OW.free
               go_simp
               refine hK.out _ _ trivial (fun hS'=>?_)
               clear hK K hS hS' oW oF
               try simp only [Act.put,zq0,zq1,zq2,zq3,zq4,zq5]
               refine wpAnyH_done (by kernel_rfl) ?_ _
               have OX:=Lib.hid (mbox_self OW 1 (.slice B2 (gs.length - 1) d2))
               have XX:=Lib.hid (mbox_else XW (show gx ≠ gO by have:=HGX.out;have:=HOL.out;omega) 1 (.slice B2 (gs.length - 1) d2))
               have ZX:=Lib.hid (mbox_else ZW (show w.heap.size + 2 ≠ gO by have:=HLW.out;have:=HGO.out;omega) 1 (.slice B2 (gs.length - 1) d2))
               have YX:=Lib.hid (mbox_else YW (show w.heap.size + 3 ≠ gO by have:=HLW.out;have:=HGO.out;omega) 1 (.slice B2 (gs.length - 1) d2))
               have TX:=Lib.hid (Below.setCell (p:=⟨gO,1,none⟩) (Below.trans T4.out (HBW.out.mono HL4W.out)) (show w.heap.size ≤ gO by have:=HLW.out;have:=HGO.out;omega) (.slice B2 (gs.length - 1) d2))
               have LX : Hid (lo ≤ (w7.setCell ⟨gO,1,none⟩ (.slice B2 (gs.length - 1) d2)).heap.size):=by show _ ≤ _;rw [msize];exact Nat.le_trans HLO4.out HBW.out.size
               clear OW XW ZW YW
               go_wp2_with fail
               go_meet
               exact ⟨rfl,B2,d2,HE2.out,HFN.out,OX.out,XX.out,ZX.out,YX.out,TX.out,LX.out⟩
           · rw [if_pos (by rfl)]
             have yQ:=OV.cell
             go_simp
             refine hK.out _ _ trivial (fun hS'=>?_)
             clear yQ hK K hS
             have hS:=hS'
             clear hS'
             try simp only [Act.put,zq0,zq1,zq2,zq3,zq4,zq5]
             refine wpAnyH_take (i:=9) (v:=?_) rfl (by kernel_rfl) (by kernel_rfl) (by kernel_rfl) (fun _ _ _ h=>h) (Or.inl ⟨by rfl,?_⟩) hS ?_
             rotate_left
             · (intro w hSw;(try dsimp only at hSw);go_simp;(try with_reducible rfl))
             rotate_left
             simp only [Act.put,zq0,zq1,zq2,zq3,zq4,zq5]
             refine wpAnyH_ready (rs:=[1]) (by kernel_rfl) (by simp) ?_
             refine AllReadyH.cons rfl (fun K hK=>?_) AllReadyH.nil
             rw [if_pos (by rfl)]
             have yQ:=OV.cell
             go_simp
             refine hK.out _ _ trivial (fun hS'=>?_)
             clear yQ hK K hS
             have hS:=hS'
             clear hS'
             try simp only [Act.put,zq0,zq1,zq2,zq3,zq4,zq5]
             refine wpAnyH_take (i:=3) (v:=?_) rfl (by kernel_rfl) (by kernel_rfl) (by kernel_rfl) (fun _ _ _ h=>h) (Or.inl ⟨by rfl,?_⟩) hS ?_
             rotate_left
             · (intro w hSw;(try dsimp only at hSw);go_simp;(try with_reducible rfl))
             rotate_left
             simp only [Act.put,zq0,zq1,zq2,zq3,zq4,zq5]
             refine wpAnyH_ready (rs:=[4]) (by kernel_rfl) (by simp) ?_
             refine AllReadyH.cons rfl (fun K hK=>?_) AllReadyH.nil
             rw [if_pos (by rfl)]
             refine wp_append_rd _ (.const (.slice none 0 0)) (.tmp 52) 26 rfl (gx + 1) 64 ig _ 6 80 Try.underlying26 hig hg0 hg1 hg2 rfl (by decide) (.slice none 0 0) 0 [] rfl ⟨rfl,.inl ⟨rfl,rfl⟩⟩ (some ⟨G,o,none⟩) j d' ((cells.toList.drop o).take (j * 6)) rfl (part_len HP1.out) (rd_part GV HP1.out) (by have h1:=part_one (a:=0) (k:=j * 6) HONC.out (by have:=HJ.out;omega);rw [Nat.add_zero] at h1;exact h1) (by have:=HFW.out;have:=HJ.out;unfold maxLen;omega) (by have:=HFW.out;have:=HJ.out;omega) XV.lt ?_
             intro v1 w1 own1 gr1 _
             have bb:=Ext.grown (Below.refl _ _) gr1 (by simp [Value.ownBlock])
             have own1' : w1.ownsRow (gx + 1) 64 6 v1 j ((cells.toList.drop o).take (j * 6)):=by rw [Nat.zero_add,List.nil_append] at own1;exact own1
             have OV1:=OV.next bb
             have GV1:=GV.next bb
             have XV1:=XV.next bb
             have ZV1:=ZV.next bb
             have YV1:=YV.next bb
             have bv1:=Ext.trans bv bb
             refine hK.out _ _ trivial (fun hS'=>?_)
             clear hK K hS OV GV XV ZV YV bv bb own1 gr1
             have hS:=hS'
             clear hS'
             have OV:=OV1
             have GV:=GV1
             have XV:=XV1
             have ZV:=ZV1
             have YV:=YV1
             have bv:=bv1
             clear OV1 GV1 XV1 ZV1 YV1 bv1
             try simp only [Act.put,zq0,zq1,zq2,zq3,zq4,zq5]
             refine wpAnyH_ready (rs:=[10]) (by kernel_rfl) (by simp) ?_
             refine AllReadyH.cons rfl (fun K hK=>?_) AllReadyH.nil
             rw [if_pos (by rfl)]
             refine wp_append_rd _ (.tmp 53) (.tmp 58) 26 rfl (gx + 1) 64 ig _ 6 80 Try.underlying26 hig hg0 hg1 hg2 rfl (by decide) v1 j ((cells.toList.drop o).take (j * 6)) rfl own1' _ (gs.length - j1) _ ((cells.toList.drop (o + (j + 1) * 6)).take ((gs.length - 1 - j) * 6)) rfl (by rw [part_len HP2.out];have:=HJ1.out;have:=HJ.out;congr 1;omega) (by have h1:=rd_part GV HP2.out;rw [← HJ1.out] at h1 ⊢;exact h1) (part_one (a:=(j + 1) * 6) (k:=(gs.length - 1 - j) * 6) HONC.out (by have:=HJ.out;omega)) (by have:=HFW.out;have:=HJ.out;unfold maxLen;omega) (by have:=HFW.out;have:=HJ.out;omega) XV.lt ?_
             intro v2 w7 own2 gr2 _
             have hk1 : ∀ k,v1.ownBlock = some k → gx + 1 ≤ k:=fun k e=>own_block own1' e
             have bv2:=Below.grown bv gr2 bv.size (fun k e=>by have:=hk1 _ e;have:=HGX.out;omega)
             have own2' : w7.ownsRow wr.heap.size 64 6 v2 (gs.length - 1) ((cells.toList.drop o).take (j * 6) ++ (cells.toList.drop (o + (j + 1) * 6)).take ((gs.length - 1 - j) * 6)):=by rw [show j + (gs.length - j1) = gs.length - 1 by have:=HJ.out;have:=HJ1.out;omega] at own2;exact own_base own2 (by have:=HGX.out;omega)
             have OW:=OV.grown gr2 (fun e=>by have:=hk1 _ e;have:=HOL.out;have:=HGX.out;omega)
             have XW:=XV.grown gr2 (fun e=>by have:=hk1 _ e;omega)
             have ZW:=ZV.grown gr2 (fun e=>by have:=hk1 _ e;have:=HLW.out;have:=HLO4.out;have:=HGX.out;omega)
             have YW:=YV.grown gr2 (fun e=>by have:=hk1 _ e;have:=HLW.out;have:=HLO4.out;have:=HGX.out;omega)
             obtain ⟨B2,d2,rfl,e2,hfin⟩:=HG4.out w7 v2 bv2 own2'
             obtain ⟨m1,m2,m3,m4,m5⟩:=hfin (.slice B2 (gs.length - 1) d2)
             have HFN:=Lib.hid (And.intro m1 (And.intro m2 (And.intro m3 (And.intro m4 m5))))
             have HE2:=Lib.hid e2
             have HBW:=Lib.hid bv2
             refine hK.out _ _ trivial (fun hS'=>?_)
             clear hK K hS OV GV XV ZV YV bv own1' own2 own2' gr2 hfin m1 m2 m3 m4 m5 hk1 e2
             have hS:=hS'
             clear hS'
             try simp only [Act.put,zq0,zq1,zq2,zq3,zq4,zq5]
             refine wpAnyH_take (i:=11) (v:=?_) rfl (by kernel_rfl) (by kernel_rfl) (by kernel_rfl) (fun _ _ _ h=>h) (Or.inl ⟨by rfl,?_⟩) hS ?_
             rotate_left
             · (intro w hSw;(try dsimp only at hSw);go_simp;(try with_reducible rfl))
             rotate_left
             simp only [Act.put,zq0,zq1,zq2,zq3,zq4,zq5]
             refine wpAnyH_ready (rs:=[12]) (by kernel_rfl) (by simp) ?_
             refine AllReadyH.cons rfl (fun K hK=>?_) AllReadyH.nil
             rw [if_pos (by rfl)]
             have oW:=OW.cell
             have oF:=OW.free
             go_simp
             refine hK.out _ _ trivial (fun hS'=>?_)
             clear hK K hS hS' oW oF
             try simp only [Act.put,zq0,zq1,zq2,zq3,zq4,zq5]
             refine wpAnyH_done (by kernel_rfl) ?_ _
             have OX:=Lib.hid (mbox_self OW 1 (.slice B2 (gs.length - 1) d2))
             have XX:=Lib.hid (mbox_else XW (show gx ≠ gO by have:=HGX.out;have:=HOL.out;omega) 1 (.slice B2 (gs.length - 1) d2))
             have ZX:=Lib.hid (mbox_else ZW (show w.heap.size + 2 ≠ gO by have:=HLW.out;have:=HGO.out;omega) 1 (.slice B2 (gs.length - 1) d2))
             have YX:=Lib.hid (mbox_else YW (show w.heap.size + 3 ≠ gO by have:=HLW.out;have:=HGO.out;omega) 1 (.slice B2 (gs.length - 1) d2))
             have TX:=Lib.hid (Below.setCell (p:=⟨gO,1,none⟩) (Below.trans T4.out (HBW.out.mono HL4W.out)) (show w.heap.size ≤ gO by have:=HLW.out;have:=HGO.out;omega) (.slice B2 (gs.length - 1) d2))
             have LX : Hid (lo ≤ (w7.setCell ⟨gO,1,none⟩ (.slice B2 (gs.length - 1) d2)).heap.size):=by show _ ≤ _;rw [msize];exact Nat.le_trans HLO4.out HBW.out.size
             clear OW XW ZW YW
             go_wp2_with fail
             go_meet
             exact ⟨rfl,B2,d2,HE2.out,HFN.out,OX.out,XX.out,ZX.out,YX.out,TX.out,LX.out⟩
        case rest=>
         obtain ⟨rfl,B2,d2,hd2,⟨m1,m2,m3,m4,m5⟩,O7,X7,Z7,Y7,t7,hl7⟩:=hcut
         have hc:=rended_any ⟨id,m,c,r,l,h⟩ By' lo R cR B2 d2 (ys,gs.eraseIdx j) (nuOf gj) (kiOf gj) a y (datOf gj) (mksOf gj) Ab cb' Am cm wc m1 m2 m3 hl7 HERA.out HAYL.out.1 HAYL.out.2.1 HAYL.out.2.2 (by
          rcases HMKS.out.1 with h | h
          · rw [h];simp
          · exact Nat.le_of_eq h) (fun q hq=>HMKS.out.2 q hq) m4 m5
         dsimp only at hc
         rw [HLE.out] at hc
         have HSE:=Lib.hid hc
         have HD2:=Lib.hid hd2
         have HL7:=Lib.hid hl7
         have o7:=O7.cell
         have x7:=X7.cell
         clear O4 Z4 Y4 X6 b6 C4 P4 t4 p4 XV hc m1 m2 m3 m4 m5 hd2 hl7
         go_wp2_with fail
         refine HSE.out.mono ?_
         rintro e w9 ⟨hsd,hkp⟩
         have t9:=Below.trans t7 (Below.mono hkp.below (by have:=HLW.out;omega))
         have Z9:=hkp.box _ _ _ Z7 (by decide) (by decide) (by decide)
         have Y9:=hkp.box _ _ _ Y7 (by decide) (by decide) (by decide)
         have X9:=hkp.box _ _ _ X7 (by decide) (by decide) (by decide)
         have bA:=Ext.alloc (Below.refl w9.heap.size w9) (.cells #[.slice (some ⟨R,0,none⟩) ys.length cR,.slice B2 (gs.length - 1) d2] 28)
         have HL9 : Hid (lo ≤ w9.heap.size):=Nat.le_trans HL7.out hkp.below.size
         clear o7 x7 O7 X7 Z7 Y7 t7 hkp HSE
         rcases hsd with ⟨hno,rfl⟩ | ⟨tt,dat,DD,dq,hsome,rfl,hdat,hE⟩
         · have HNONE : Hid (endAll ys gs j = none):=HEA.out.trans hno
           have ZA:=Z9.next bA
           have YA:=Y9.next bA
           have tA:=Ext.trans t9 bA
           clear hno X9 Z9 Y9 t9 bA
           go_upto_region 15 with fail
           generalize w9.alloc (.cells #[.slice (some ⟨R,0,none⟩) ys.length cR,.slice B2 (gs.length - 1) d2] 28) = wA at *
           have zA:=ZA.cell
           have zfA:=ZA.free
           have ycA:=YA.cell
           have yfA:=YA.free
           go_wp2
           have B5:=mbox_self (mbox_self ZA 0 (.slice none 0 0)) 1 (.slice none 0 0)
           have B6:=mbox_self (mbox_self (mbox_self (mbox_self (mbox_else (mbox_else YA (show w.heap.size + 3 ≠ w.heap.size + 2 by omega) 0 (.slice none 0 0)) (show w.heap.size + 3 ≠ w.heap.size + 2 by omega) 1 (.slice none 0 0)) 0 (.int .i64 0)) 1 (.int .i64 0)) 2 (.slice none 0 0)) 3 (.int .i64 0)
           have B7:=mbox_else (mbox_else (mbox_else (mbox_else B5 (show w.heap.size + 2 ≠ w.heap.size + 3 by omega) 0 (.int .i64 0)) (show w.heap.size + 2 ≠ w.heap.size + 3 by omega) 1 (.int .i64 0)) (show w.heap.size + 2 ≠ w.heap.size + 3 by omega) 2 (.slice none 0 0)) (show w.heap.size + 2 ≠ w.heap.size + 3 by omega) 3 (.int .i64 0)
           have T5:=Below.setCell (p:=⟨w.heap.size + 3,3,none⟩) (Below.setCell (p:=⟨w.heap.size + 3,2,none⟩) (Below.setCell (p:=⟨w.heap.size + 3,1,none⟩) (Below.setCell (p:=⟨w.heap.size + 3,0,none⟩) (Below.setCell (p:=⟨w.heap.size + 2,1,none⟩) (Below.setCell (p:=⟨w.heap.size + 2,0,none⟩) tA (show w.heap.size ≤ w.heap.size + 2 by omega) (.slice none 0 0)) (show w.heap.size ≤ w.heap.size + 2 by omega) (.slice none 0 0)) (show w.heap.size ≤ w.heap.size + 3 by omega) (.int .i64 0)) (show w.heap.size ≤ w.heap.size + 3 by omega) (.int .i64 0)) (show w.heap.size ≤ w.heap.size + 3 by omega) (.slice none 0 0)) (show w.heap.size ≤ w.heap.size + 3 by omega) (.int .i64 0)
           exact bodyPost_ret (v:=.tuple #[.agg #[.slice none 0 0,.slice none 0 0],.agg #[.int .i64 0,.int .i64 0,.slice none 0 0,.int .i64 0],.int .i64 9]) (Eq.trans (results_rows3 (P:=Try.prog) (fn:=Try.f32) (p:=6) (q:=7) (u:=8) rfl _ _ (w.heap.size + 2) 28 #[.slice none 0 0,.slice none 0 0] (w.heap.size + 3) 53 #[.int .i64 0,.int .i64 0,.slice none 0 0,.int .i64 0] rfl rfl B7 B6 _ _ Try.underlying28 Try.underlying53 rfl rfl (by kernel_rfl) (by kernel_rfl)) rfl) rfl ⟨EndIs.err (.inr (.inr (.inl ⟨HOK.out,⟨j,HJ.out,(by obtain ⟨_,h⟩:=HNU.out;exact h),HNONE.out⟩,rfl,rfl,rfl,rfl,rfl,rfl⟩))),T5⟩
         · have HSOME : Hid (endAll ys gs j = some (tt,dat)):=HEA.out.trans hsome
           have QA:=BoxOf.new w9 #[.slice (some ⟨R,0,none⟩) ys.length cR,.slice B2 (gs.length - 1) d2] 28
           have XA:=X9.next bA
           have ZA:=Z9.next bA
           have YA:=Y9.next bA
           have tA:=Ext.trans t9 bA
           have HE:=Lib.hid (hE.next bA HL9.out)
           have HDAT:=Lib.hid (hdat.below bA)
           have HNA : Hid (∀ b,NewB lo w9 b → NewB lo (w9.alloc (.cells #[.slice (some ⟨R,0,none⟩) ys.length cR,.slice B2 (gs.length - 1) d2] 28)) b):=fun b hb=>newB_next hb bA.size (bA.block b hb.2.1)
           have HLA : Hid (lo ≤ (w9.alloc (.cells #[.slice (some ⟨R,0,none⟩) ys.length cR,.slice B2 (gs.length - 1) d2] 28)).heap.size):=Nat.le_trans HL9.out bA.size
           clear hsome hE hdat X9 Z9 Y9 t9 bA
           go_upto_region 15 with fail
           obtain ⟨gq,hgq⟩ : ∃ z : Nat,z = w9.heap.size:=⟨_,rfl⟩
           have HGQ:=Lib.hid hgq
           rw [← hgq] at QA ⊢
           clear hgq
           generalize w9.alloc (.cells #[.slice (some ⟨R,0,none⟩) ys.length cR,.slice B2 (gs.length - 1) d2] 28) = wA at *
           go_upto_region 17 with fail
           have Zd:=ZA.drew
           have Yd:=YA.drew
           have Qd:=QA.drew
           have Xd:=XA.drew
           have td:=Ext.drew tA
           have HED:=Lib.hid (HE.out.next (Ext.drew (Below.refl wA.heap.size wA)) HLA.out)
           have HDD:=Lib.hid (HDAT.out.below (Ext.drew (Below.refl wA.heap.size wA)))
           have HND : Hid (∀ b,NewB lo w9 b → NewB lo wA.drew b):=HNA.out
           refine wp_region_held_drew (S:=fun w'=>(∀ p,w'.cell? ⟨gq,p,none⟩ = (#[.slice (some ⟨R,0,none⟩) ys.length cR,.slice B2 (gs.length - 1) d2] : Array Value).toList[p]?) ∧ ∀ p,w'.cell? ⟨gx,p,none⟩ = (#[.int .i64 (nuOf gj),.int .u8 ((kiOf gj).toNat : Int),.int .i64 (a : Int),.int .i64 (y : Int),.slice Ab (datOf gj).length cb',.slice Am (mksOf gj).length cm] : Array Value).toList[p]?) (by kernel_rfl) ⟨Qd.cell,Xd.cell⟩ (fun hS=>?_)
           clear ZA YA QA XA tA HE HDAT HNA
           generalize wA.drew = wd at *
           refine wpAnyH_take (i:=0) (v:=?_) rfl (by kernel_rfl) (by kernel_rfl) (by kernel_rfl) (fun _ _ _ h=>h) (Or.inl ⟨by rfl,?_⟩) hS ?_
           rotate_left
           · (intro w hSw;(try dsimp only at hSw);go_simp;(try with_reducible rfl))
           rotate_left
           simp only [Act.put,zq0,zq1,zq2,zq3,zq4,zq5]
           refine wpAnyH_take (i:=1) (v:=?_) rfl (by kernel_rfl) (by kernel_rfl) (by kernel_rfl) (fun _ _ _ h=>h) (Or.inl ⟨by rfl,?_⟩) hS ?_
           rotate_left
           · (intro w hSw;(try dsimp only at hSw);go_simp;(try with_reducible rfl))
           rotate_left
           simp only [Act.put,zq0,zq1,zq2,zq3,zq4,zq5]
           refine wpAnyH_take (i:=2) (v:=?_) rfl (by kernel_rfl) (by kernel_rfl) (by kernel_rfl) (fun _ _ _ h=>h) (Or.inl ⟨by rfl,?_⟩) hS ?_
           rotate_left
           · (intro w hSw;(try dsimp only at hSw);go_simp;(try with_reducible rfl))
           rotate_left
           simp only [Act.put,zq0,zq1,zq2,zq3,zq4,zq5]
           refine wpAnyH_take (i:=3) (v:=?_) rfl (by kernel_rfl) (by kernel_rfl) (by kernel_rfl) (fun _ _ _ h=>h) (Or.inl ⟨by rfl,?_⟩) hS ?_
           rotate_left
           · (intro w hSw;(try dsimp only at hSw);go_simp;(try with_reducible rfl))
           rotate_left
           simp only [Act.put,zq0,zq1,zq2,zq3,zq4,zq5]
           refine wpAnyH_take (i:=4) (v:=?_) rfl (by kernel_rfl) (by kernel_rfl) (by kernel_rfl) (fun _ _ _ h=>h) (Or.inl ⟨by rfl,?_⟩) hS ?_
           rotate_left
           · (intro w hSw;(try dsimp only at hSw);go_simp;(try with_reducible rfl))
           rotate_left
           simp only [Act.put,zq0,zq1,zq2,zq3,zq4,zq5]
           refine wpAnyH_take (i:=5) (v:=?_) rfl (by kernel_rfl) (by kernel_rfl) (by kernel_rfl) (fun _ _ _ h=>h) (Or.inl ⟨by rfl,?_⟩) hS ?_
           rotate_left
           · (intro w hSw;(try dsimp only at hSw);go_simp;(try with_reducible rfl))
           rotate_left
           simp only [Act.put,zq0,zq1,zq2,zq3,zq4,zq5]
           refine wpAnyH_take (i:=6) (v:=?_) rfl (by kernel_rfl) (by kernel_rfl) (by kernel_rfl) (fun _ _ _ h=>h) (Or.inl ⟨by rfl,?_⟩) hS ?_
           rotate_left
           · (intro w hSw;(try dsimp only at hSw);go_simp;(try with_reducible rfl))
           rotate_left
           simp only [Act.put,zq0,zq1,zq2,zq3,zq4,zq5]
           refine wpAnyH_ready (rs:=[7]) (by kernel_rfl) (by simp) ?_
           refine AllReadyH.cons rfl (fun K hK=>?_) AllReadyH.nil
           rw [if_pos (by rfl)]
           have zf:=Zd.free
           have zc:=Zd.cell
           go_simp
           clear zf zc
           have hg3 : gq ≠ w.heap.size + 2:=by have:=HGQ.out;have:=HLW.out;have:=HL9.out;omega
           have hg4 : gq ≠ w.heap.size + 3:=by have:=HGQ.out;have:=HLW.out;have:=HL9.out;omega
           have hx3 : gx ≠ w.heap.size + 2:=by have:=HGX.out;have:=HLW.out;have:=HLO4.out;omega
           have hx4 : gx ≠ w.heap.size + 3:=by have:=HGX.out;have:=HLW.out;have:=HLO4.out;omega
           have Ze : BoxOf _ (w.heap.size + 2) #[.slice (some ⟨R,0,none⟩) ys.length cR,.slice B2 (gs.length - 1) d2] 28:=mbox_self (mbox_self Zd 0 (.slice (some ⟨R,0,none⟩) ys.length cR)) 1 (.slice B2 (gs.length - 1) d2)
           have Ye:=mbox_else (mbox_else Yd (show w.heap.size + 3 ≠ w.heap.size + 2 by omega) 0 (.slice (some ⟨R,0,none⟩) ys.length cR)) (show w.heap.size + 3 ≠ w.heap.size + 2 by omega) 1 (.slice B2 (gs.length - 1) d2)
           have Qe:=mbox_else (mbox_else Qd hg3 0 (.slice (some ⟨R,0,none⟩) ys.length cR)) hg3 1 (.slice B2 (gs.length - 1) d2)
           have Xe:=mbox_else (mbox_else Xd hx3 0 (.slice (some ⟨R,0,none⟩) ys.length cR)) hx3 1 (.slice B2 (gs.length - 1) d2)
           refine hK.out _ _ ⟨Qe.cell,Xe.cell⟩ (fun hS'=>?_)
           clear hK K hS
           have hS:=hS'
           clear hS'
           try simp only [Act.put,zq0,zq1,zq2,zq3,zq4,zq5]
           refine wpAnyH_ready (rs:=[8]) (by kernel_rfl) (by simp) ?_
           refine AllReadyH.cons rfl (fun K hK=>?_) AllReadyH.nil
           rw [if_pos (by rfl)]
           have yf:=Ye.free
           have yc:=Ye.cell
           go_simp
           clear yf yc
           have Yf : BoxOf _ (w.heap.size + 3) #[.int .i64 number,.int .i64 0,.slice DD dat.length dq,.int .i64 (y : Int)] 53:=mbox_self (mbox_self (mbox_self (mbox_self Ye 0 (.int .i64 number)) 1 (.int .i64 0)) 2 (.slice DD dat.length dq)) 3 (.int .i64 (y : Int))
           have Zf:=mbox_else (mbox_else (mbox_else (mbox_else Ze (show w.heap.size + 2 ≠ w.heap.size + 3 by omega) 0 (.int .i64 number)) (show w.heap.size + 2 ≠ w.heap.size + 3 by omega) 1 (.int .i64 0)) (show w.heap.size + 2 ≠ w.heap.size + 3 by omega) 2 (.slice DD dat.length dq)) (show w.heap.size + 2 ≠ w.heap.size + 3 by omega) 3 (.int .i64 (y : Int))
           have Qf:=mbox_else (mbox_else (mbox_else (mbox_else Qe hg4 0 (.int .i64 number)) hg4 1 (.int .i64 0)) hg4 2 (.slice DD dat.length dq)) hg4 3 (.int .i64 (y : Int))
           have Xf:=mbox_else (mbox_else (mbox_else (mbox_else Xe hx4 0 (.int .i64 number)) hx4 1 (.int .i64 0)) hx4 2 (.slice DD dat.length dq)) hx4 3 (.int .i64 (y : Int))
           have tf:=Below.setCell (p:=⟨w.heap.size + 3,3,none⟩) (Below.setCell (p:=⟨w.heap.size + 3,2,none⟩) (Below.setCell (p:=⟨w.heap.size + 3,1,none⟩) (Below.setCell (p:=⟨w.heap.size + 3,0,none⟩) (Below.setCell (p:=⟨w.heap.size + 2,1,none⟩) (Below.setCell (p:=⟨w.heap.size + 2,0,none⟩) td (show w.heap.size ≤ w.heap.size + 2 by omega) (.slice (some ⟨R,0,none⟩) ys.length cR)) (show w.heap.size ≤ w.heap.size + 2 by omega) (.slice B2 (gs.length - 1) d2)) (show w.heap.size ≤ w.heap.size + 3 by omega) (.int .i64 number)) (show w.heap.size ≤ w.heap.size + 3 by omega) (.int .i64 0)) (show w.heap.size ≤ w.heap.size + 3 by omega) (.slice DD dat.length dq)) (show w.heap.size ≤ w.heap.size + 3 by omega) (.int .i64 (y : Int))
           refine hK.out _ _ ⟨Qf.cell,Xf.cell⟩ (fun hS'=>?_)
           clear hK K hS
           have hS:=hS'
           clear hS'
           try simp only [Act.put,zq0,zq1,zq2,zq3,zq4,zq5]
           refine wpAnyH_take (i:=9) (v:=?_) rfl (by kernel_rfl) (by kernel_rfl) (by kernel_rfl) (fun _ _ _ h=>h) (Or.inl ⟨by rfl,?_⟩) hS ?_
           rotate_left
           · (intro w hSw;(try dsimp only at hSw);go_simp;(try with_reducible rfl))
           rotate_left
           simp only [Act.put,zq0,zq1,zq2,zq3,zq4,zq5]
           refine wpAnyH_done (by kernel_rfl) ?_ _
           clear hS
           go_wp2
           obtain ⟨p1,p2,p3⟩:=endAll_ok HOK.out HJ.out HSOME.out
           obtain ⟨By3,s1,s2,s3,s4,s5,s6⟩:=HED.out
           have hfr : ∀ b : Nat,lo ≤ b → ((((((wd.setCell ⟨w.heap.size + 2,0,none⟩ (.slice (some ⟨R,0,none⟩) ys.length cR)).setCell ⟨w.heap.size + 2,1,none⟩ (.slice B2 (gs.length - 1) d2)).setCell ⟨w.heap.size + 3,0,none⟩ (.int .i64 number)).setCell ⟨w.heap.size + 3,1,none⟩ (.int .i64 0)).setCell ⟨w.heap.size + 3,2,none⟩ (.slice DD dat.length dq)).setCell ⟨w.heap.size + 3,3,none⟩ (.int .i64 (y : Int))).heap[b]? = wd.heap[b]?:=by
            intro b hb
            have:=HLW.out
            rw [Below.heap_setCell _ _ _ _ (show b ≠ w.heap.size + 3 from fun e=>by have:=HLW.out;omega),Below.heap_setCell _ _ _ _ (show b ≠ w.heap.size + 3 from fun e=>by have:=HLW.out;omega),Below.heap_setCell _ _ _ _ (show b ≠ w.heap.size + 3 from fun e=>by have:=HLW.out;omega),Below.heap_setCell _ _ _ _ (show b ≠ w.heap.size + 3 from fun e=>by have:=HLW.out;omega),Below.heap_setCell _ _ _ _ (show b ≠ w.heap.size + 2 from fun e=>by have:=HLW.out;omega),Below.heap_setCell _ _ _ _ (show b ≠ w.heap.size + 2 from fun e=>by have:=HLW.out;omega)]
           have hsz : ((((((wd.setCell ⟨w.heap.size + 2,0,none⟩ (.slice (some ⟨R,0,none⟩) ys.length cR)).setCell ⟨w.heap.size + 2,1,none⟩ (.slice B2 (gs.length - 1) d2)).setCell ⟨w.heap.size + 3,0,none⟩ (.int .i64 number)).setCell ⟨w.heap.size + 3,1,none⟩ (.int .i64 0)).setCell ⟨w.heap.size + 3,2,none⟩ (.slice DD dat.length dq)).setCell ⟨w.heap.size + 3,3,none⟩ (.int .i64 (y : Int))).heap.size = wd.heap.size:=by
            rw [msize,msize,msize,msize,msize,msize]
           have hbl : w.heap.size ≤ lo:=by have:=HLW.out;omega
           have RY:=(s4.rdin (cR:=cR) (by rw [p2];exact HCR.out) p1.short s2 (fun i hi=>Nat.le_trans (p1.row hi).2.1 (by decide))).rest hsz hfr hbl
           have RG:=(s5.rdin (by rw [p3,HLE.out];exact HD2.out) (Nat.le_trans p1.few (by decide)) s2).rest hsz hfr hbl
           have RD : RdIn _ (NewB w.heap.size _) (.sl .byte) dat [.slice DD dat.length dq]:=RdIn.rest (HDD.out.mono (S':=NewB lo wd) fun b hb=>HND.out b hb) hsz hfr hbl
           rw [p2] at RY
           rw [p3,HLE.out] at RG
           exact bodyPost_ret (v:=.tuple #[.agg #[.slice (some ⟨R,0,none⟩) ys.length cR,.slice B2 (gs.length - 1) d2],.agg #[.int .i64 number,.int .i64 0,.slice DD dat.length dq,.int .i64 (y : Int)],.int .i64 0]) (Eq.trans (results_rows3 (P:=Try.prog) (fn:=Try.f32) (p:=6) (q:=7) (u:=8) rfl _ _ (w.heap.size + 2) 28 _ (w.heap.size + 3) 53 _ rfl rfl Zf Yf _ _ Try.underlying28 Try.underlying53 rfl rfl (by kernel_rfl) (by kernel_rfl)) rfl) rfl ⟨⟨0,tt.1,tt.2,number,dat,(y : Int),some ⟨R,0,none⟩,cR,B2,d2,DD,dq,by rw [p2,p3,HLE.out],.inr (.inr (.inr ⟨HOK.out,⟨j,HJ.out,by obtain ⟨_,h⟩:=HNU.out;exact h,HSOME.out,by rw [HGJ.out];exact HHY.out.symm⟩,rfl,rfl⟩)),by rw [p2];exact RY,by rw [p3,HLE.out];exact RG,RD⟩,tf⟩
end Go.Proofs.Ytclbihcggjjgaaa
