/- What this claim needs of my texts, merged and shortened by a program (part 9). -/
import Derived.Test.YthapabjlhooglaaZFlightSure8
namespace Go.Proofs.Ythapabjlhooglaa
open Go Go.RowKit
set_option linter.unusedSimpArgs false
set_option linter.unusedVariables false
theorem Told.step9 {lo : Nat} {rs : List RpL} {v : Value} {w w' : World} (h : Told lo rs v w) (hb : Below w.heap.size w w') : Told lo rs v w':=OwnE.step h hb
set_option maxRecDepth 100000 in
set_option maxHeartbeats 16000000 in
theorem surelaw_core (S S2 : Nat → Prop) (x : Cfg) (fs : List FlTy.T) (N d : Nat) (B : Option Addr) (hN : fs.length = N) (ls : List LvTy.T) (n lc : Nat) (L : Option Addr) (hnl : ls.length = n) (ga gq : Nat) (hga : ga < 2 ^ 32) (hgq : gq < 2 ^ 32) (gt gu : Int) (hgt : IsInt gt) (hgu : IsInt gu) (back : Bool) (w : World) (hr : RdIn w S (.sl FlTy) fs [.slice B N d]) (hl : RdIn w S2 (.sl LvTy) ls [.slice L n lc]) :
 Calls Try.prog 6 #[x.val,.slice B N d,.agg #[.int .u32 (ga : Int),.int .u32 (gq : Int),.int .i64 gt,.int .i64 gu,.slice L n lc],.bool back] w fun e w'=>e = .returned (.bool true) ∧ Below w.heap.size w w':=by
 have HX:=Lib.hid (fun (w : World) (hr : RdIn w S (.sl FlTy) fs [.slice B N d])=>fcheck_any S x fs N d B hN w hr)
 have HGR:=Lib.hid (fun (w : World) (hr : RdIn w S (.sl FlTy) fs [.slice B N d])=>fgreat_any S fs N d B hN w hr)
 have HGL:=Lib.hid (fun (w : World)=>lgreat_any ga gq gt gu L n lc w)
 have HLC:=Lib.hid (fun (w : World) (hl : RdIn w S2 (.sl LvTy) ls [.slice L n lc])=>logcheck_any S2 x ls n lc L hnl ga gq hga hgq gt gu hgt hgu w hl)
 have HDO:=Lib.hid (fun (w : World) (hr : RdIn w S (.sl FlTy) fs [.slice B N d]) (hl : RdIn w S2 (.sl LvTy) ls [.slice L n lc])=>fdone_any S S2 x fs N d B hN ls n lc L hnl ga gq hga hgq gt gu hgt hgu back false w hr hl)
 obtain ⟨lb,hlb⟩ : ∃ z : Bool,z = (decide x.Ok && logR x.m x.c x.r x.l ga gq gt gu ls):=⟨_,rfl⟩
 have HLR : Hid (lb = true → LogRow gq ls):=fun h=>logR_row (m:=x.m) (c:=x.c) (r:=x.r) (l:=x.l) (ga:=ga) (gt:=gt) (gu:=gu) hgq (by rw [hlb,Bool.and_eq_true] at h;exact h.2)
 obtain ⟨ys,hys⟩ : ∃ z,z = (partF (doneB ls back false) fs true).1:=⟨_,rfl⟩
 obtain ⟨ns,hns⟩ : ∃ z,z = (partF (doneB ls back false) fs true).2:=⟨_,rfl⟩
 have HDP : Hid (flB x fs = true → lb = true → doneP x fs ga gq gt gu ls back false = (ns,ys.map rpOf,0)):=fun h1 h2=>by
  unfold doneP
  rw [if_pos h1,← hlb,if_pos h2,hys,hns]
 rw [← hlb] at HLC
 have HYS:=Lib.hid hys
 have HYL : Hid (ys.length + ns.length = fs.length):=by show _ = _;rw [hys,hns];exact partF_len _ _ _
 have HNL:=Lib.hid hN
 have HLN:=Lib.hid hnl
 have HGQ:=Lib.hid hgq
 have HNM : Hid (N ≤ maxLen):=by have:=fl_max hr;show N ≤ maxLen;omega
 clear hlb hys hns hga hgq hgt hgu hnl hN
 obtain ⟨id,m,c,r,l,h⟩:=x
 unfold Cfg.val at *
 dsimp only at *
 have C0:=BoxOf.alloc (BoxOf.new w #[.int .u32 (id : Int),.int .i64 m,.int .i64 c,.int .i64 r,.int .i64 l,.int .i64 h] 24) (.cells #[.int .u32 (ga : Int),.int .u32 (gq : Int),.int .i64 gt,.int .i64 gu,.slice L n lc] 60)
 have G0:=BoxOf.new' (w.alloc (.cells #[.int .u32 (id : Int),.int .i64 m,.int .i64 c,.int .i64 r,.int .i64 l,.int .i64 h] 24)) (w.heap.size + 1) #[.int .u32 (ga : Int),.int .u32 (gq : Int),.int .i64 gt,.int .i64 gu,.slice L n lc] 60 (by simp)
 have t0:=Ext.alloc (Ext.alloc (Below.refl w.heap.size w) (.cells #[.int .u32 (id : Int),.int .i64 m,.int .i64 c,.int .i64 r,.int .i64 l,.int .i64 h] 24)) (.cells #[.int .u32 (ga : Int),.int .u32 (gq : Int),.int .i64 gt,.int .i64 gu,.slice L n lc] 60)
 have HR:=Lib.hid (hr.below t0)
 have HL:=Lib.hid (hl.below t0)
 clear hr hl
 go_enter Try.func6,Try.ntmps6
 go_upto_region 1 with fail
 generalize (w.alloc (.cells #[.int .u32 (id : Int),.int .i64 m,.int .i64 c,.int .i64 r,.int .i64 l,.int .i64 h] 24)).alloc (.cells #[.int .u32 (ga : Int),.int .u32 (gq : Int),.int .i64 gt,.int .i64 gu,.slice L n lc] 60) = W at *
 have x0:=C0.cell
 have y0:=G0.cell
 go_wp2_with fail
 refine (falive_any W).mono ?_
 rintro e w1 ⟨rfl,b1⟩
 have t1:=Ext.trans t0 b1
 have C1:=C0.next b1
 have G1:=G0.next b1
 have HR1:=Lib.hid (HR.out.below b1)
 have HL1:=Lib.hid (HL.out.below b1)
 clear C0 G0 HR HL t0 b1 x0 y0
 have x1:=C1.cell
 have y1:=G1.cell
 go_wp2_with fail
 refine (HGR.out w1 HR1.out).mono ?_
 rintro e w2 ⟨⟨gb,rfl⟩,b2⟩
 have t2:=Ext.trans t1 b2
 have C2:=C1.next b2
 have G2:=G1.next b2
 have HR2:=Lib.hid (HR1.out.below b2)
 have HL2:=Lib.hid (HL1.out.below b2)
 clear C1 G1 HR1 HL1 t1 b2 x1 y1
 have x2:=C2.cell
 have y2:=G2.cell
 cases gb with
 | true=>
   go_wp2
   go_ret
   exact ⟨rfl,t2⟩
 | false=>
 go_wp2_with fail
 refine (HGL.out w2).mono ?_
 rintro e w3 ⟨⟨gb,rfl⟩,b3⟩
 have t3:=Ext.trans t2 b3
 have C3:=C2.next b3
 have G3:=G2.next b3
 have HR3:=Lib.hid (HR2.out.below b3)
 have HL3:=Lib.hid (HL2.out.below b3)
 clear C2 G2 HR2 HL2 t2 b3 x2 y2
 have x3:=C3.cell
 have y3:=G3.cell
 cases gb with
 | true=>
   go_wp2
   go_ret
   exact ⟨rfl,t3⟩
 | false=>
 go_wp2_with fail
 refine (HX.out w3 HR3.out).mono ?_
 rintro e w4 ⟨he,b4⟩
 have t4:=Ext.trans t3 b4
 have C4:=C3.next b4
 have G4:=G3.next b4
 have HR4:=Lib.hid (HR3.out.below b4)
 have HL4:=Lib.hid (HL3.out.below b4)
 clear C3 G3 HR3 HL3 t3 b4 x3 y3
 have x4:=C4.cell
 have y4:=G4.cell
 rcases okbad_cases he with ⟨hk,rfl⟩ | ⟨hk,rfl⟩
 rotate_left
 · clear he hk
   go_wp2
   go_ret
   exact ⟨rfl,t4⟩
 have HK:=Lib.hid hk
 clear he hk
 go_wp2_with fail
 refine (HLC.out w4 HL4.out).mono ?_
 rintro e w5 ⟨rfl,b5⟩
 have t5:=Ext.trans t4 b5
 have C5:=C4.next b5
 have G5:=G4.next b5
 have HR5:=Lib.hid (HR4.out.below b5)
 have HL5:=Lib.hid (HL4.out.below b5)
 clear C4 G4 HR4 HL4 t4 b5 x4 y4
 have x5:=C5.cell
 have y5:=G5.cell
 cases lb with
 | false=>
   go_wp2
   go_ret
   exact ⟨rfl,t5⟩
 | true=>
 have HROW:=Lib.hid (HLR.out rfl)
 have hdp:=HDP.out HK.out rfl
 rw [hdp] at HDO
 clear HX HGR HGL HLC HLR HDP hdp
 as_aux_lemma=>
 go_wp2_with fail
 refine (HDO.out w5 HR5.out HL5.out).mono ?_
 rintro e w6 ⟨hres,b6⟩
 obtain ⟨nl,hnl⟩ : ∃ z,z = ns.length:=⟨_,rfl⟩
 obtain ⟨yl,hyl⟩ : ∃ z,z = (ys.map rpOf).length:=⟨_,rfl⟩
 obtain ⟨A6,c6,A6',c6',rfl,_,told⟩:=hres.of rfl hnl.symm hyl.symm
 have hyn : yl = ys.length:=by rw [hyl,List.length_map]
 have hsum : nl + yl = N:=by have:=HYL.out;have:=HNL.out;omega
 have HYN:=Lib.hid hyn
 have HT6:=Lib.hid told
 have t6:=Ext.trans t5 b6
 have C6:=C5.next b6
 have G6:=G5.next b6
 have HR6:=Lib.hid (HR5.out.below b6)
 have HL6:=Lib.hid (HL5.out.below b6)
 have hw1 : wrap64 ((nl : Int) + (yl : Int)) = (N : Int):=by
  rw [show (nl : Int) + (yl : Int) = (N : Int) by omega]
  exact IntWalk.wrap64_in _ (by have:=HNM.out;unfold maxLen at this;omega)
 have HNLM : Hid (n ≤ maxLen):=by have h8:=lv_max HL6.out;have h9:=HLN.out;show n ≤ maxLen;omega
 have hw2 : wrap64 ((n : Int) - 1) = (n : Int) - 1:=IntWalk.wrap64_in _ (by have:=HNLM.out;unfold maxLen at this;omega)
 clear C5 G5 HR5 HL5 t5 b6 x5 y5 HDO hres hnl hyl hyn hsum told HYL
 have y6:=G6.cell
 go_wp2
 clear hw1 y6
 obtain ⟨wo,hwo⟩ : ∃ z : World,z = w6:=⟨_,rfl⟩
 rw [← hwo] at C6 G6 t6 HR6 HL6 HT6
 have bo : Below wo.heap.size wo w6:=by rw [hwo];exact Below.refl _ _
 clear hwo
 go_loopw [13,14] (fun f i wr=>∃ (j : Nat) (v : Int),j ≤ n ∧ i = .int .i64 v ∧ f = .int .u32 (firstQ gq (ls.drop j) : Int) ∧ Below wo.heap.size wo wr ∧ Hid (v = (j : Int) - 1)) (fun _ i _=>(intOf i + 1).toNat)
 case atStart=>
  refine ⟨n,(n : Int) - 1,Nat.le_refl _,by rw [hw2],?_,bo,rfl⟩
  rw [← HLN.out,firstQ_end]
 case round=>
  as_aux_lemma=>
  obtain ⟨j,v,hj,rfl,rfl,b7,hv⟩:=hrel
  clear bo
  have C7:=C6.next b7
  have G7:=G6.next b7
  have t7:=Ext.trans t6 b7
  have HL7:=Lib.hid (HL6.out.below b7)
  cases j with
  | succ k=>
    have hkl : k < ls.length:=by have:=HLN.out;omega
    have hv' : v = (k : Int):=by have:=hv.out;omega
    subst hv'
    obtain ⟨lb1,lo1,rfl,l0,l1,l2,l3,l4,l5⟩:=lv_at HL7.out hkl
    have HFQ:=Lib.hid (firstQ_drop (gq:=gq) hkl)
    have hwk : wrap64 ((k : Int) - 1) = (k : Int) - 1:=IntWalk.wrap64_in _ (by have:=HNLM.out;unfold maxLen at this;omega)
    have HWK:=Lib.hid hwk
    have hkn : k < n:=hj
    have y7:=G7.cell
    clear l1 l2 l3 l5 hv hwk
    cases hu : lvU ls[k] with
    | true=>
      have HFT : Hid (firstQ gq (ls.drop k) = firstQ gq (ls.drop (k + 1))):=by have h9:=HFQ.out;rw [if_pos hu] at h9;exact h9
      rw [hu] at l4
      generalize firstQ gq (ls.drop (k + 1)) = fq at *
      generalize ls[k] = v at *
      clear HFQ hu
      go_wp2
      exact ⟨⟨k,_,by omega,rfl,by rw [HFT.out],b7,HWK.out⟩,by simp [intOf];have:=HWK.out;omega⟩
    | false=>
      have HFT : Hid (firstQ gq (ls.drop k) = lvQ ls[k]):=by have h9:=HFQ.out;rw [if_neg (by rw [hu];decide)] at h9;exact h9
      rw [hu] at l4
      generalize firstQ gq (ls.drop (k + 1)) = fq at *
      generalize lvQ ls[k] = vq at *
      clear HFQ hu
      go_wp2
      exact ⟨⟨k,_,by omega,rfl,by rw [HFT.out],b7,HWK.out⟩,by simp [intOf];have:=HWK.out;omega⟩
  | zero=>
    have hv' : v = -1:=by have:=hv.out;omega
    subst hv'
    obtain ⟨F,hF⟩ : ∃ z,z = firstQ gq ls:=⟨_,rfl⟩
    rw [List.drop_zero,← hF]
    have HF:=Lib.hid hF
    clear hF
    have HF2 : Hid (∀ sq,sureB ls sq true = (decide (sq < F) || decide (F = gq))):=fun sq=>by rw [HF.out];exact sure_upB HROW.out
    have HF3 : Hid (∀ (soon : Bool) (ss : List UInt8) (qs : List Nat) (k : Nat) (h : k < ss.length) (h1 : k < qs.length),blksDone ls soon (ss.take (k + 1)) qs = (blksDone ls soon (ss.take k) qs && (decide (ss[k].toNat = 3) || (decide (ss[k].toNat = 2) && (soon || (decide (qs[k] < F) || decide (gq ≤ qs[k]))))))):=fun soon ss qs k h h1=>by rw [HF.out];exact want_next HROW.out h h1
    clear HF HROW
    go_wp2
    obtain ⟨wp,hwp⟩ : ∃ z : World,z = wr:=⟨_,rfl⟩
    have HR8:=Lib.hid (HR6.out.below b7)
    have HT8:=Lib.hid (HT6.out.step9 b7)
    clear HR6 HT6 C6 G6 t6 C7 b7
    rw [← hwp] at HR8 HT8 HL7 G7 t7
    have bo : Below wp.heap.size wp wr:=by rw [hwp];exact Below.refl _ _
    clear hwp
    go_loopw [15,16] (fun a i wr=>∃ (j : Nat),j ≤ N ∧ i = .int .i64 (j : Int) ∧ a = .int .i64 (dnN (doneB ls back false) fs j : Int) ∧ Below wp.heap.size wp wr) (fun _ i _=>N - (intOf i).toNat)
    case atStart=>exact ⟨0,Nat.zero_le _,rfl,rfl,bo⟩
    case round=>
     as_aux_lemma=>
     obtain ⟨j,hj,rfl,rfl,b9⟩:=hrel
     clear bo
     have t9:=Ext.trans t7 b9
     have G9:=G7.next b9
     have HR9:=Lib.hid (HR8.out.below b9)
     have HT9:=Lib.hid (HT8.out.step9 b9)
     by_cases hlt : j < N
     · have hjf : j < fs.length:=by have:=HNL.out;omega
       obtain ⟨bb,off,Ab,cb,As,cs,Aq,cq,Ax,cx,rfl,q0,q1,q2,q3,q4,q5,q6,q7,hi,r1,r2,r3,r4⟩:=fl_at HR9.out hjf
       have hone:=fl_one HK.out hjf
       have HNEXT:=Lib.hid (dnN_next (p:=doneB ls back false) hjf)
       have hyes:=told_yes (p:=doneB ls back false) hjf
       have hno:=told_no (p:=doneB ls back false) HK.out hjf
       rw [← HYS.out] at hyes hno
       obtain ⟨av,hav⟩ : ∃ z : Bool,z = doneB ls back false fs[j] (decide (j = 0)):=⟨_,rfl⟩
       rw [← hav] at hyes hno HNEXT
       have hdj : dnN (doneB ls back false) fs j ≤ j:=by
        unfold dnN
        have h8:=partF_len (doneB ls back false) (fs.take j) true
        rw [List.length_take] at h8
        omega
       generalize dnN (doneB ls back false) fs j = dn at hyes hno HNEXT hdj ⊢
       have HAV:=Lib.hid hav
       have HONE:=Lib.hid hone
       have HWJ:=next_wrap HNM.out hlt
       have hwd : wrap64 ((dn : Int) + 1) = ((dn + 1 : Nat) : Int):=(next_wrap HNM.out (show dn < N by omega)).out
       have HWD:=Lib.hid hwd
       have HJN:=Lib.hid hlt
       have HR2:=Lib.hid r2
       have HR3:=Lib.hid r3
       clear hav hone hwd hi r1 r2 r3 r4 HK
       generalize fs[j] = g at *
       have HFC : Hid (∀ w',Below wr.heap.size wr w' → (w'.cell? ⟨bb,off + j * 8,none⟩ = some (.int .i64 (fN g)) ∧ w'.cell? ⟨bb,off + j * 8 + 1,none⟩ = some (.int .u8 (kI g)) ∧ w'.cell? ⟨bb,off + j * 8 + 2,none⟩ = some (.int .i64 (fA g)) ∧ w'.cell? ⟨bb,off + j * 8 + 3,none⟩ = some (.int .i64 (fM g)) ∧ w'.cell? ⟨bb,off + j * 8 + 4,none⟩ = some (.slice Ab (fD g).length cb) ∧ w'.cell? ⟨bb,off + j * 8 + 5,none⟩ = some (.slice As (fS g).length cs) ∧ w'.cell? ⟨bb,off + j * 8 + 6,none⟩ = some (.slice Aq (fQ g).length cq) ∧ w'.cell? ⟨bb,off + j * 8 + 7,none⟩ = some (.slice Ax (fB g).length cx))):=by
        have LB:=cell_lt q0
        exact fun w' bw=>⟨by rw [bw.cell (p:=⟨bb,off + j * 8,none⟩) LB];exact q0,by rw [bw.cell (p:=⟨bb,off + j * 8 + 1,none⟩) LB];exact q1,by rw [bw.cell (p:=⟨bb,off + j * 8 + 2,none⟩) LB];exact q2,by rw [bw.cell (p:=⟨bb,off + j * 8 + 3,none⟩) LB];exact q3,by rw [bw.cell (p:=⟨bb,off + j * 8 + 4,none⟩) LB];exact q4,by rw [bw.cell (p:=⟨bb,off + j * 8 + 5,none⟩) LB];exact q5,by rw [bw.cell (p:=⟨bb,off + j * 8 + 6,none⟩) LB];exact q6,by rw [bw.cell (p:=⟨bb,off + j * 8 + 7,none⟩) LB];exact q7⟩
       clear q1 q2 q3 q4 q5 q6 q7
       cases av with
       | true=>
         obtain ⟨hdy,hye⟩:=hyes rfl
         have hdm : dn < (ys.map rpOf).length:=by rw [List.length_map];exact hdy
         obtain ⟨gq4,u4,e4,k0,_⟩:=told_at HT9.out (j:=dn) hdm
         subst e4
         have hnum : ((ys.map rpOf)[dn]'hdm).1 = fN g:=by rw [List.getElem_map,hye];rfl
         rw [hnum] at k0
         have hdl : dn < yl:=by have:=HYN.out;omega
         clear hyes hno hnum hye
         as_aux_lemma=>
         go_upto_region 17 with fail
         have LB:=cell_lt q0
         have LG:=cell_lt k0
         have HS : Hid (∀ w',Below wr.heap.size wr w' → (Below wr.heap.size wr w' ∧ w'.cell? ⟨gq4,dn * 4,none⟩ = some (.int .i64 (fN g)) ∧ w'.cell? ⟨bb,off + j * 8,none⟩ = some (.int .i64 (fN g)))):=fun w' bw=>⟨bw,by rw [bw.cell (p:=⟨gq4,dn * 4,none⟩) LG];exact k0,by rw [bw.cell (p:=⟨bb,off + j * 8,none⟩) LB];exact q0⟩
         have HSD:=HS.out _ (Ext.drew (Below.refl wr.heap.size wr))
         clear q0 k0 LB LG
         refine wp_region_held_drew (S:=fun w'=>Below wr.heap.size wr w' ∧ w'.cell? ⟨gq4,dn * 4,none⟩ = some (.int .i64 (fN g)) ∧ w'.cell? ⟨bb,off + j * 8,none⟩ = some (.int .i64 (fN g))) (by kernel_rfl) HSD (fun hS=>?_)
         clear HSD
         refine wpAnyH_take (i:=0) (v:=?_) rfl (by kernel_rfl) (by kernel_rfl) (by kernel_rfl) (fun _ _ _ h=>h) (Or.inl ⟨by rfl,?_⟩) hS ?_
         rotate_left
         · (intro w hSw;(try dsimp only at hSw);go_simp;(try with_reducible rfl))
         rotate_left
         simp only [Act.put,zq0,zq1,zq2,zq3,zq4,zq5]
         refine wpAnyH_take (i:=1) (v:=?_) rfl (by kernel_rfl) (by kernel_rfl) (by kernel_rfl) (fun _ _ _ h=>h) (Or.inl ⟨by rfl,?_⟩) hS ?_
         rotate_left
         · (intro w hSw;(try dsimp only at hSw);go_simp;(try with_reducible rfl))
         rotate_left
         simp only [Act.put,zq0,zq1,zq2,zq3,zq4,zq5]
         refine wpAnyH_take (i:=2) (v:=?_) rfl (by kernel_rfl) (by kernel_rfl) (by kernel_rfl) (fun _ _ _ h=>h) (Or.inl ⟨by rfl,?_⟩) hS ?_
         rotate_left
         · (intro w hSw;(try dsimp only at hSw);go_simp;(try with_reducible rfl))
         rotate_left
         simp only [Act.put,zq0,zq1,zq2,zq3,zq4,zq5]
         refine wpAnyH_take (i:=3) (v:=?_) rfl (by kernel_rfl) (by kernel_rfl) (by kernel_rfl) (fun _ _ _ h=>h) (Or.inl ⟨by rfl,?_⟩) hS ?_
         rotate_left
         · (intro w hSw;(try dsimp only at hSw);go_simp;(try with_reducible rfl))
         rotate_left
         simp only [Act.put,zq0,zq1,zq2,zq3,zq4,zq5]
         refine wpAnyH_take (i:=4) (v:=?_) rfl (by kernel_rfl) (by kernel_rfl) (by kernel_rfl) (fun _ _ _ h=>h) (Or.inl ⟨by rfl,?_⟩) hS ?_
         rotate_left
         · (intro w hSw;(try dsimp only at hSw);go_simp;(try with_reducible rfl))
         rotate_left
         simp only [Act.put,zq0,zq1,zq2,zq3,zq4,zq5]
         refine wpAnyH_take (i:=5) (v:=?_) rfl (by kernel_rfl) (by kernel_rfl) (by kernel_rfl) (fun _ _ _ h=>h) (Or.inl ⟨by rfl,?_⟩) hS ?_
         rotate_left
         · (intro w hSw;(try dsimp only at hSw);go_simp;(try with_reducible rfl))
         rotate_left
         simp only [Act.put,zq0,zq1,zq2,zq3,zq4,zq5]
         refine wpAnyH_take (i:=6) (v:=?_) rfl (by kernel_rfl) (by kernel_rfl) (by kernel_rfl) (fun _ _ _ h=>h) (Or.inl ⟨by rfl,?_⟩) hS ?_
         rotate_left
         · (intro w hSw;(try dsimp only at hSw);go_simp;(try with_reducible rfl))
         rotate_left
         simp only [Act.put,zq0,zq1,zq2,zq3,zq4,zq5]
         refine wpAnyH_take (i:=7) (v:=?_) rfl (by kernel_rfl) (by kernel_rfl) (by kernel_rfl) (fun _ _ _ h=>h) (Or.inl ⟨by rfl,?_⟩) hS ?_
         rotate_left
         · (intro w hSw;(try dsimp only at hSw);go_simp;(try with_reducible rfl))
         rotate_left
         simp only [Act.put,zq0,zq1,zq2,zq3,zq4,zq5]
         refine wpAnyH_take (i:=8) (v:=?_) rfl (by kernel_rfl) (by kernel_rfl) (by kernel_rfl) (fun _ _ _ h=>h) (Or.inl ⟨by rfl,?_⟩) hS ?_
         rotate_left
         · (intro w hSw;(try dsimp only at hSw);go_simp;(try with_reducible rfl))
         rotate_left
         simp only [Act.put,zq0,zq1,zq2,zq3,zq4,zq5]
         refine wpAnyH_take (i:=9) (v:=?_) rfl (by kernel_rfl) (by kernel_rfl) (by kernel_rfl) (fun _ _ _ h=>h) (Or.inl ⟨by rfl,?_⟩) hS ?_
         rotate_left
         · (intro w hSw;(try dsimp only at hSw);go_simp;(try with_reducible rfl))
         rotate_left
         simp only [Act.put,zq0,zq1,zq2,zq3,zq4,zq5]
         refine wpAnyH_take (i:=10) (v:=?_) rfl (by kernel_rfl) (by kernel_rfl) (by kernel_rfl) (fun _ _ _ h=>h) (Or.inl ⟨by rfl,?_⟩) hS ?_
         rotate_left
         · (intro w hSw;(try dsimp only at hSw);go_simp;(try with_reducible rfl))
         rotate_left
         simp only [Act.put,zq0,zq1,zq2,zq3,zq4,zq5]
         refine wpAnyH_take (i:=11) (v:=?_) rfl (by kernel_rfl) (by kernel_rfl) (by kernel_rfl) (fun _ _ _ h=>h) (Or.inl ⟨by rfl,?_⟩) hS ?_
         rotate_left
         · (intro w hSw;(try dsimp only at hSw);go_simp;(try with_reducible rfl))
         rotate_left
         simp only [Act.put,zq0,zq1,zq2,zq3,zq4,zq5]
         refine wpAnyH_take (i:=12) (v:=?_) rfl (by kernel_rfl) (by kernel_rfl) (by kernel_rfl) (fun _ _ _ h=>h) (Or.inl ⟨by rfl,?_⟩) hS ?_
         rotate_left
         · (intro w hSw;(try dsimp only at hSw);go_simp;(try with_reducible rfl))
         rotate_left
         simp only [Act.put,zq0,zq1,zq2,zq3,zq4,zq5]
         refine wpAnyH_take (i:=13) (v:=?_) rfl (by kernel_rfl) (by kernel_rfl) (by kernel_rfl) (fun _ _ _ h=>h) (Or.inl ⟨by rfl,?_⟩) hS ?_
         rotate_left
         · (intro w hSw;(try dsimp only at hSw);go_simp;(try with_reducible rfl))
         rotate_left
         simp only [Act.put,zq0,zq1,zq2,zq3,zq4,zq5]
         refine wpAnyH_take (i:=14) (v:=?_) rfl (by kernel_rfl) (by kernel_rfl) (by kernel_rfl) (fun _ _ _ h=>h) (Or.inl ⟨by rfl,?_⟩) hS ?_
         rotate_left
         · (intro w hSw;(try dsimp only at hSw);go_simp;(try with_reducible rfl))
         rotate_left
         simp only [Act.put,zq0,zq1,zq2,zq3,zq4,zq5]
         refine wpAnyH_take (i:=15) (v:=?_) rfl (by kernel_rfl) (by kernel_rfl) (by kernel_rfl) (fun _ _ _ h=>h) (Or.inl ⟨by rfl,?_⟩) hS ?_
         rotate_left
         · (intro w hSw;(try dsimp only at hSw);go_simp;(try with_reducible rfl))
         rotate_left
         simp only [Act.put,zq0,zq1,zq2,zq3,zq4,zq5]
         refine wpAnyH_take (i:=16) (v:=?_) rfl (by kernel_rfl) (by kernel_rfl) (by kernel_rfl) (fun _ _ _ h=>h) (Or.inl ⟨by rfl,?_⟩) hS ?_
         rotate_left
         · (intro w hSw;(try dsimp only at hSw);go_simp;(try with_reducible rfl))
         rotate_left
         simp only [Act.put,zq0,zq1,zq2,zq3,zq4,zq5]
         refine wpAnyH_take (i:=17) (v:=?_) rfl (by kernel_rfl) (by kernel_rfl) (by kernel_rfl) (fun _ _ _ h=>h) (Or.inl ⟨by rfl,?_⟩) hS ?_
         rotate_left
         · (intro w hSw;(try dsimp only at hSw);go_simp;(try with_reducible rfl))
         rotate_left
         simp only [Act.put,zq0,zq1,zq2,zq3,zq4,zq5]
         refine wpAnyH_done (by kernel_rfl) ?_ _
         clear hS HS
         have D10:=Ext.drew (Below.refl wr.heap.size wr)
         have G10:=G9.next D10
         have b10:=Ext.trans b9 D10
         have t10:=Ext.trans t9 D10
         have HFD : Hid (∀ w',Below wr.drew.heap.size wr.drew w' → (w'.cell? ⟨bb,off + j * 8,none⟩ = some (.int .i64 (fN g)) ∧ w'.cell? ⟨bb,off + j * 8 + 1,none⟩ = some (.int .u8 (kI g)) ∧ w'.cell? ⟨bb,off + j * 8 + 2,none⟩ = some (.int .i64 (fA g)) ∧ w'.cell? ⟨bb,off + j * 8 + 3,none⟩ = some (.int .i64 (fM g)) ∧ w'.cell? ⟨bb,off + j * 8 + 4,none⟩ = some (.slice Ab (fD g).length cb) ∧ w'.cell? ⟨bb,off + j * 8 + 5,none⟩ = some (.slice As (fS g).length cs) ∧ w'.cell? ⟨bb,off + j * 8 + 6,none⟩ = some (.slice Aq (fQ g).length cq) ∧ w'.cell? ⟨bb,off + j * 8 + 7,none⟩ = some (.slice Ax (fB g).length cx))):=fun w' bw=>HFC.out w' (Ext.trans D10 bw)
         obtain ⟨p0,p1,p2,p3,p4,p5,p6,p7⟩:=HFC.out _ D10
         have HS3:=Lib.hid (HR2.out.below D10)
         have HQ3:=Lib.hid (HR3.out.below D10)
         clear D10 HFC HR2 HR3
         have hwd:=HWD.out
         generalize wr.drew = w10 at *
         have F0:=BoxOf.new w10 #[.int .i64 (fN g),.int .u8 (kI g),.int .i64 (fA g),.int .i64 (fM g),.slice Ab (fD g).length cb,.slice As (fS g).length cs,.slice Aq (fQ g).length cq,.slice Ax (fB g).length cx] 67
         have bA:=Ext.alloc (Below.refl w10.heap.size w10) (.cells #[.int .i64 (fN g),.int .u8 (kI g),.int .i64 (fA g),.int .i64 (fM g),.slice Ab (fD g).length cb,.slice As (fS g).length cs,.slice Aq (fQ g).length cq,.slice Ax (fB g).length cx] 67)
         have G11:=G10.next bA
         have t11:=Ext.trans t10 bA
         have b11:=Ext.trans b10 bA
         have HS4:=Lib.hid (HS3.out.below bA)
         have HQ4:=Lib.hid (HQ3.out.below bA)
         go_upto_region 21 with fail
         generalize w10.alloc (.cells #[.int .i64 (fN g),.int .u8 (kI g),.int .i64 (fA g),.int .i64 (fM g),.slice Ab (fD g).length cb,.slice As (fS g).length cs,.slice Aq (fQ g).length cq,.slice Ax (fB g).length cx] 67) = w11 at *
         obtain ⟨gf,hgf⟩ : ∃ z : Nat,z = w10.heap.size:=⟨_,rfl⟩
         rw [← hgf] at F0 ⊢
         clear p0 p1 p2 p3 p4 p5 p6 p7 HS3 HQ3 HFD bA G10 t10 b10 hgf
         have x11:=F0.cell
         have y11:=G11.cell
         by_cases hk4 : kI g = 4
         · have hq1 : ((fQ g).length : Int) = 1:=by have h8:=(oneB_iff.1 HONE.out).2.2.2.2.1;rw [if_pos hk4] at h8;exact h8
           have hq0 : 0 < (fQ g).length:=by omega
           obtain ⟨bq,oq,eq9,hc9⟩:=sq_at HQ4.out hq0
           subst eq9
           rw [Nat.add_zero] at hc9
           have hav : true = (decide ((fQ g)[0] < F) || decide (F = gq)):=by
            rw [HAV.out]
            unfold doneB
            rw [if_pos hk4,Bool.false_or,List.getElem?_eq_getElem hq0,HF2.out]
            rfl
           generalize (fQ g)[0] = q9 at *
           have e4 : (kI g == 4) = true:=by simpa using hk4
           clear hk4 HQ4
           by_cases h5 : q9 < F
           · rw [decide_eq_true h5,Bool.true_or] at hav
             have e5 : (q9 : Int) < (F : Int):=by omega
             clear h5
             first
              | exact absurd hav (by decide)
              | (clear hav
                 go_wp2
                 try rw [HWJ.out]
                 refine ⟨⟨j + 1,HJN.out,by first | rfl | go_num,?_,b11⟩,by simp [intOf];have:=HJN.out;omega⟩
                 rw [HNEXT.out]
                 first | rfl | (rw [hwd];rfl) | simp
                 )
           · have e5 : ¬ (q9 : Int) < (F : Int):=by omega
             rw [decide_eq_false h5,Bool.false_or] at hav
             clear h5
             by_cases h6 : F = gq
             · rw [decide_eq_true h6] at hav
               have e6 : (F == gq) = true:=by simpa using h6
               have e7 : ((F : Int) == (gq : Int)) = true:=by simp;omega
               clear h6
               first
                | exact absurd hav (by decide)
                | (clear hav
                   go_wp2
                   try rw [HWJ.out]
                   refine ⟨⟨j + 1,HJN.out,by first | rfl | go_num,?_,b11⟩,by simp [intOf];have:=HJN.out;omega⟩
                   rw [HNEXT.out]
                   first | rfl | (rw [hwd];rfl) | simp
                   )
             · rw [decide_eq_false h6] at hav
               have e6 : (F == gq) = false:=by simpa using h6
               have e7 : ((F : Int) == (gq : Int)) = false:=by simp;omega
               clear h6
               first
                | exact absurd hav (by decide)
                | (clear hav
                   go_wp2
                   try rw [HWJ.out]
                   refine ⟨⟨j + 1,HJN.out,by first | rfl | go_num,?_,b11⟩,by simp [intOf];have:=HJN.out;omega⟩
                   rw [HNEXT.out]
                   first | rfl | (rw [hwd];rfl) | simp
                   )
         · have e4 : (kI g == 4) = false:=by simpa using hk4
           by_cases hk6 : kI g = 6
           · have hav : true = (decide (j = 0) && decide (n = 0)):=by
              rw [HAV.out]
              unfold doneB
              rw [if_neg hk4,if_pos hk6,HLN.out]
             have e5 : (kI g == 6) = true:=by simpa using hk6
             clear hk4 hk6
             by_cases h5 : j = 0
             · rw [decide_eq_true h5,Bool.true_and] at hav
               have e6 : ((j : Int) == 0) = true:=by simp;omega
               by_cases h6 : n = 0
               · rw [decide_eq_true h6] at hav
                 have e7 : ((n : Int) == 0) = true:=by simp;omega
                 clear h5 h6
                 first
                      | exact absurd hav (by decide)
                      | (clear hav
                         go_wp2
                         try rw [HWJ.out]
                         refine ⟨⟨j + 1,HJN.out,by first | rfl | go_num,?_,b11⟩,by simp [intOf];have:=HJN.out;omega⟩
                         rw [HNEXT.out]
                         first | rfl | (rw [hwd];rfl) | simp
                         )
               · rw [decide_eq_false h6] at hav
                 have e7 : ((n : Int) == 0) = false:=by simp;omega
                 clear h5 h6
                 first
                      | exact absurd hav (by decide)
                      | (clear hav
                         go_wp2
                         try rw [HWJ.out]
                         refine ⟨⟨j + 1,HJN.out,by first | rfl | go_num,?_,b11⟩,by simp [intOf];have:=HJN.out;omega⟩
                         rw [HNEXT.out]
                         first | rfl | (rw [hwd];rfl) | simp
                         )
             · rw [decide_eq_false h5,Bool.false_and] at hav
               have e6 : ((j : Int) == 0) = false:=by simp;omega
               clear h5
               first
                | exact absurd hav (by decide)
                | (clear hav
                   go_wp2
                   try rw [HWJ.out]
                   refine ⟨⟨j + 1,HJN.out,by first | rfl | go_num,?_,b11⟩,by simp [intOf];have:=HJN.out;omega⟩
                   rw [HNEXT.out]
                   first | rfl | (rw [hwd];rfl) | simp
                   )
           · have hav : true = blksDone ls (back && decide (kI g ≠ 3)) (fS g) (fQ g):=by
              rw [HAV.out]
              unfold doneB
              rw [if_neg hk4,if_neg hk6]
             obtain ⟨so,hso⟩ : ∃ z : Bool,z = (back && decide (kI g ≠ 3)):=⟨_,rfl⟩
             rw [← hso] at hav
             have HSO:=Lib.hid hso
             obtain ⟨nz,hnz⟩ : ∃ z : Nat,z = (fS g).length:=⟨_,rfl⟩
             have HNZ:=Lib.hid hnz
             have HMZ : Hid (nz ≤ maxLen):=by show nz ≤ maxLen;rw [hnz];exact byte_max HS4.out
             have HLE : Hid ((fS g).length ≤ (fQ g).length):=by
              have h8:=oneB_iff.1 HONE.out
              have h5:=h8.2.2.2.2.1
              rw [if_neg hk4] at h5
              have h3:=h8.2.2.1
              show _ ≤ _
              omega
             have HAW:=Lib.hid hav
             have e6 : (kI g == 6) = false:=by simpa using hk6
             obtain ⟨wq,hwq⟩ : ∃ z : World,z = w11:=⟨_,rfl⟩
             have b0 : Below wq.heap.size wq w11:=by rw [hwq];exact Below.refl _ _
             have HTZ : Hid (Below w.heap.size w wq):=by show Below _ _ _;rw [hwq];exact t11
             have HBZ : Hid (Below wp.heap.size wp wq):=by show Below _ _ _;rw [hwq];exact b11
             have HFZ : Hid (BoxOf wq gf #[.int .i64 (fN g),.int .u8 (kI g),.int .i64 (fA g),.int .i64 (fM g),.slice Ab (fD g).length cb,.slice As (fS g).length cs,.slice Aq (fQ g).length cq,.slice Ax (fB g).length cx] 67):=by show BoxOf _ _ _ _;rw [hwq];exact F0
             have HGZ : Hid (BoxOf wq (w.heap.size + 1) #[.int .u32 (ga : Int),.int .u32 (gq : Int),.int .i64 gt,.int .i64 gu,.slice L n lc] 60):=by show BoxOf _ _ _ _;rw [hwq];exact G11
             rw [← hwq] at HS4 HQ4
             rw [← hnz] at x11
             clear hwq hk4 hk6 hso hav hnz t11 b11 F0 G11 HAV HONE HR9 HT9
             go_wp2
             clear x11 y11
             go_loopw [19,20] (fun wv i wr=>∃ (k : Nat),k ≤ nz ∧ i = .int .i64 (k : Int) ∧ wv = .bool (blksDone ls so ((fS g).take k) (fQ g)) ∧ Below wq.heap.size wq wr) (fun _ i _=>nz - (intOf i).toNat)
             case atStart=>exact ⟨0,Nat.zero_le _,rfl,by rw [List.take_zero,blksDone_none],b0⟩
             case round=>
              as_aux_lemma=>
              obtain ⟨k,hk,rfl,rfl,bk⟩:=hrel
              clear b0
              by_cases hlt9 : k < nz
              · have hks : k < (fS g).length:=by have:=HNZ.out;omega
                have hkq : k < (fQ g).length:=by have:=HLE.out;omega
                have HNW:=Lib.hid (HF3.out so (fS g) (fQ g) k hks hkq)
                obtain ⟨bs,os,hAs,ks⟩:=st_at (HS4.out.below bk) hks
                obtain ⟨bq,oq,hAq,kq⟩:=sq_at (HQ4.out.below bk) hkq
                obtain ⟨wv,hwv⟩ : ∃ z : Bool,z = blksDone ls so ((fS g).take k) (fQ g):=⟨_,rfl⟩
                obtain ⟨st,hst⟩ : ∃ z : Nat,z = (fS g)[k].toNat:=⟨_,rfl⟩
                rw [← hwv,← hst] at HNW
                rw [← hwv]
                rw [← hst] at ks
                generalize (fQ g)[k] = sq at *
                obtain ⟨sv,hsv⟩ : ∃ z : Bool,z = (decide (sq < F) || decide (gq ≤ sq)):=⟨_,rfl⟩
                rw [← hsv] at HNW
                have HSV:=Lib.hid hsv
                subst hAs hAq
                have HWK:=next_wrap HMZ.out hlt9
                have HLK:=Lib.hid hlt9
                have F1:=HFZ.out.next bk
                have G1:=HGZ.out.next bk
                have x1:=F1.cell
                rw [← HNZ.out] at x1
                have y1:=G1.cell
                clear hwv hst hsv hks HF3
                go_upto_region 26 with fail
                go_cut [21] (fun s9 wx=>s9 = .bool sv ∧ Below wr.heap.size wr wx)
                case first=>
                      have HSX : Hid (∀ w',Below wr.heap.size wr w' → (Below wr.heap.size wr w' ∧ (∀ o,w'.cell? ⟨gf,o,none⟩ = (#[.int .i64 (fN g),.int .u8 (kI g),.int .i64 (fA g),.int .i64 (fM g),.slice Ab (fD g).length cb,.slice (some ⟨bs,os,none⟩) nz cs,.slice (some ⟨bq,oq,none⟩) (fQ g).length cq,.slice Ax (fB g).length cx] : Array Value).toList[o]?) ∧ (∀ o,w'.cell? ⟨w.heap.size + 1,o,none⟩ = (#[.int .u32 (ga : Int),.int .u32 (gq : Int),.int .i64 gt,.int .i64 gu,.slice L n lc] : Array Value).toList[o]?) ∧ w'.cell? ⟨bq,oq + k,none⟩ = some (.int .u32 (sq : Int)))):=fun w' bb=>⟨bb,by have h1:=(F1.next bb).cell;rw [← HNZ.out] at h1;exact h1,(G1.next bb).cell,(bb.cell (p:=⟨bq,oq + k,none⟩) (block_lt_of_cell kq)).trans kq⟩
                      clear x1 y1 kq ks
                      have HSD:=HSX.out _ (Ext.drew (Below.refl wr.heap.size wr))
                      refine wp_region_held_drew (S:=fun w'=>Below wr.heap.size wr w' ∧ (∀ o,w'.cell? ⟨gf,o,none⟩ = (#[.int .i64 (fN g),.int .u8 (kI g),.int .i64 (fA g),.int .i64 (fM g),.slice Ab (fD g).length cb,.slice (some ⟨bs,os,none⟩) nz cs,.slice (some ⟨bq,oq,none⟩) (fQ g).length cq,.slice Ax (fB g).length cx] : Array Value).toList[o]?) ∧ (∀ o,w'.cell? ⟨w.heap.size + 1,o,none⟩ = (#[.int .u32 (ga : Int),.int .u32 (gq : Int),.int .i64 gt,.int .i64 gu,.slice L n lc] : Array Value).toList[o]?) ∧ w'.cell? ⟨bq,oq + k,none⟩ = some (.int .u32 (sq : Int))) (by kernel_rfl) HSD (fun hS=>?_)
                      clear HSD
                      by_cases h5 : sq < F
                      · have h6 : sv = true:=by rw [HSV.out,decide_eq_true h5];rfl
                        subst h6
                        refine wpAnyH_take (i:=0) (v:=?_) rfl (by kernel_rfl) (by kernel_rfl) (by kernel_rfl) (fun _ _ _ h=>h) (Or.inl ⟨by rfl,?_⟩) hS ?_
                        rotate_left
                        · (intro w hSw;(try dsimp only at hSw);go_simp;(try with_reducible rfl))
                        rotate_left
                        simp only [Act.put,zq0,zq1,zq2,zq3,zq4,zq5]
                        refine wpAnyH_take (i:=1) (v:=?_) rfl (by kernel_rfl) (by kernel_rfl) (by kernel_rfl) (fun _ _ _ h=>h) (Or.inl ⟨by rfl,?_⟩) hS ?_
                        rotate_left
                        · (intro w hSw;(try dsimp only at hSw);go_simp;(try with_reducible rfl))
                        rotate_left
                        simp only [Act.put,zq0,zq1,zq2,zq3,zq4,zq5]
                        refine wpAnyH_take (i:=2) (v:=?_) rfl (by kernel_rfl) (by kernel_rfl) (by kernel_rfl) (fun _ _ _ h=>h) (Or.inl ⟨by rfl,?_⟩) hS ?_
                        rotate_left
                        · (intro w hSw;(try dsimp only at hSw);go_simp;(try with_reducible rfl))
                        rotate_left
                        simp only [Act.put,zq0,zq1,zq2,zq3,zq4,zq5]
                        refine wpAnyH_take (i:=3) (v:=?_) rfl (by kernel_rfl) (by kernel_rfl) (by kernel_rfl) (fun _ _ _ h=>h) (Or.inl ⟨by rfl,?_⟩) hS ?_
                        rotate_left
                        · (intro w hSw;(try dsimp only at hSw);go_simp;(try with_reducible rfl))
                        rotate_left
                        simp only [Act.put,zq0,zq1,zq2,zq3,zq4,zq5]
                        refine wpAnyH_take (i:=4) (v:=?_) rfl (by kernel_rfl) (by kernel_rfl) (by kernel_rfl) (fun _ _ _ h=>h) (Or.inl ⟨by rfl,?_⟩) hS ?_
                        rotate_left
                        · (intro w hSw;(try dsimp only at hSw);go_simp;(try with_reducible rfl))
                        rotate_left
                        simp only [Act.put,zq0,zq1,zq2,zq3,zq4,zq5]
                        refine wpAnyH_take (i:=5) (v:=?_) rfl (by kernel_rfl) (by kernel_rfl) (by kernel_rfl) (fun _ _ _ h=>h) (Or.inl ⟨by rfl,?_⟩) hS ?_
                        rotate_left
                        · (intro w hSw;(try dsimp only at hSw);go_simp;(try with_reducible rfl))
                        rotate_left
                        simp only [Act.put,zq0,zq1,zq2,zq3,zq4,zq5]
                        refine wpAnyH_take (i:=6) (v:=?_) rfl (by kernel_rfl) (by kernel_rfl) (by kernel_rfl) (fun _ _ _ h=>h) (Or.inl ⟨by rfl,?_⟩) hS ?_
                        rotate_left
                        · (intro w hSw;(try dsimp only at hSw);go_simp;(try with_reducible rfl))
                        rotate_left
                        simp only [Act.put,zq0,zq1,zq2,zq3,zq4,zq5]
                        refine wpAnyH_take (i:=7) (v:=?_) rfl (by kernel_rfl) (by kernel_rfl) (by kernel_rfl) (fun _ _ _ h=>h) (Or.inl ⟨by rfl,?_⟩) hS ?_
                        rotate_left
                        · (intro w hSw;(try dsimp only at hSw);go_simp;(try with_reducible rfl))
                        rotate_left
                        simp only [Act.put,zq0,zq1,zq2,zq3,zq4,zq5]
                        refine wpAnyH_take (i:=8) (v:=?_) rfl (by kernel_rfl) (by kernel_rfl) (by kernel_rfl) (fun _ _ _ h=>h) (Or.inr ⟨by rfl,?_⟩) hS ?_
                        rotate_left
                        · rfl
                        rotate_left
                        simp only [Act.put,zq0,zq1,zq2,zq3,zq4,zq5]
                        refine wpAnyH_take (i:=9) (v:=?_) rfl (by kernel_rfl) (by kernel_rfl) (by kernel_rfl) (fun _ _ _ h=>h) (Or.inr ⟨by rfl,?_⟩) hS ?_
                        rotate_left
                        · rfl
                        rotate_left
                        simp only [Act.put,zq0,zq1,zq2,zq3,zq4,zq5]
                        refine wpAnyH_take (i:=10) (v:=?_) rfl (by kernel_rfl) (by kernel_rfl) (by kernel_rfl) (fun _ _ _ h=>h) (Or.inr ⟨by rfl,?_⟩) hS ?_
                        rotate_left
                        · rfl
                        rotate_left
                        simp only [Act.put,zq0,zq1,zq2,zq3,zq4,zq5]
                        refine wpAnyH_take (i:=11) (v:=?_) rfl (by kernel_rfl) (by kernel_rfl) (by kernel_rfl) (fun _ _ _ h=>h) (Or.inr ⟨by rfl,?_⟩) hS ?_
                        rotate_left
                        · rfl
                        rotate_left
                        simp only [Act.put,zq0,zq1,zq2,zq3,zq4,zq5]
                        refine wpAnyH_take (i:=12) (v:=?_) rfl (by kernel_rfl) (by kernel_rfl) (by kernel_rfl) (fun _ _ _ h=>h) (Or.inr ⟨by rfl,?_⟩) hS ?_
                        rotate_left
                        · rfl
                        rotate_left
                        simp only [Act.put,zq0,zq1,zq2,zq3,zq4,zq5]
                        refine wpAnyH_take (i:=13) (v:=?_) rfl (by kernel_rfl) (by kernel_rfl) (by kernel_rfl) (fun _ _ _ h=>h) (Or.inr ⟨by rfl,?_⟩) hS ?_
                        rotate_left
                        · rfl
                        rotate_left
                        simp only [Act.put,zq0,zq1,zq2,zq3,zq4,zq5]
                        refine wpAnyH_take (i:=14) (v:=?_) rfl (by kernel_rfl) (by kernel_rfl) (by kernel_rfl) (fun _ _ _ h=>h) (Or.inr ⟨by rfl,?_⟩) hS ?_
                        rotate_left
                        · rfl
                        rotate_left
                        simp only [Act.put,zq0,zq1,zq2,zq3,zq4,zq5]
                        refine wpAnyH_take (i:=15) (v:=?_) rfl (by kernel_rfl) (by kernel_rfl) (by kernel_rfl) (fun _ _ _ h=>h) (Or.inr ⟨by rfl,?_⟩) hS ?_
                        rotate_left
                        · rfl
                        rotate_left
                        simp only [Act.put,zq0,zq1,zq2,zq3,zq4,zq5]
                        refine wpAnyH_take (i:=16) (v:=?_) rfl (by kernel_rfl) (by kernel_rfl) (by kernel_rfl) (fun _ _ _ h=>h) (Or.inl ⟨by rfl,?_⟩) hS ?_
                        rotate_left
                        · (intro w hSw;(try dsimp only at hSw);go_simp;(try with_reducible rfl))
                        rotate_left
                        simp only [Act.put,zq0,zq1,zq2,zq3,zq4,zq5]
                        refine wpAnyH_take (i:=17) (v:=?_) rfl (by kernel_rfl) (by kernel_rfl) (by kernel_rfl) (fun _ _ _ h=>h) (Or.inl ⟨by rfl,?_⟩) hS ?_
                        rotate_left
                        · (intro w hSw;(try dsimp only at hSw);go_simp;(try with_reducible rfl))
                        rotate_left
                        simp only [Act.put,zq0,zq1,zq2,zq3,zq4,zq5]
                        refine wpAnyH_done (by kernel_rfl) ?_ _
                        have b1:=hS.1
                        clear hS
                        go_wp2_with fail
                        go_meet
                        exact ⟨rfl,b1⟩
                      · by_cases h6 : gq ≤ sq
                        · have h7 : sv = true:=by rw [HSV.out,decide_eq_false h5,decide_eq_true h6];rfl
                          subst h7
                          refine wpAnyH_take (i:=0) (v:=?_) rfl (by kernel_rfl) (by kernel_rfl) (by kernel_rfl) (fun _ _ _ h=>h) (Or.inl ⟨by rfl,?_⟩) hS ?_
                          rotate_left
                          · (intro w hSw;(try dsimp only at hSw);go_simp;(try with_reducible rfl))
                          rotate_left
                          simp only [Act.put,zq0,zq1,zq2,zq3,zq4,zq5]
                          refine wpAnyH_take (i:=1) (v:=?_) rfl (by kernel_rfl) (by kernel_rfl) (by kernel_rfl) (fun _ _ _ h=>h) (Or.inl ⟨by rfl,?_⟩) hS ?_
                          rotate_left
                          · (intro w hSw;(try dsimp only at hSw);go_simp;(try with_reducible rfl))
                          rotate_left
                          simp only [Act.put,zq0,zq1,zq2,zq3,zq4,zq5]
                          refine wpAnyH_take (i:=2) (v:=?_) rfl (by kernel_rfl) (by kernel_rfl) (by kernel_rfl) (fun _ _ _ h=>h) (Or.inl ⟨by rfl,?_⟩) hS ?_
                          rotate_left
                          · (intro w hSw;(try dsimp only at hSw);go_simp;(try with_reducible rfl))
                          rotate_left
                          simp only [Act.put,zq0,zq1,zq2,zq3,zq4,zq5]
                          refine wpAnyH_take (i:=3) (v:=?_) rfl (by kernel_rfl) (by kernel_rfl) (by kernel_rfl) (fun _ _ _ h=>h) (Or.inl ⟨by rfl,?_⟩) hS ?_
                          rotate_left
                          · (intro w hSw;(try dsimp only at hSw);go_simp;(try with_reducible rfl))
                          rotate_left
                          simp only [Act.put,zq0,zq1,zq2,zq3,zq4,zq5]
                          refine wpAnyH_take (i:=4) (v:=?_) rfl (by kernel_rfl) (by kernel_rfl) (by kernel_rfl) (fun _ _ _ h=>h) (Or.inl ⟨by rfl,?_⟩) hS ?_
                          rotate_left
                          · (intro w hSw;(try dsimp only at hSw);go_simp;(try with_reducible rfl))
                          rotate_left
                          simp only [Act.put,zq0,zq1,zq2,zq3,zq4,zq5]
                          refine wpAnyH_take (i:=5) (v:=?_) rfl (by kernel_rfl) (by kernel_rfl) (by kernel_rfl) (fun _ _ _ h=>h) (Or.inl ⟨by rfl,?_⟩) hS ?_
                          rotate_left
                          · (intro w hSw;(try dsimp only at hSw);go_simp;(try with_reducible rfl))
                          rotate_left
                          simp only [Act.put,zq0,zq1,zq2,zq3,zq4,zq5]
                          refine wpAnyH_take (i:=6) (v:=?_) rfl (by kernel_rfl) (by kernel_rfl) (by kernel_rfl) (fun _ _ _ h=>h) (Or.inl ⟨by rfl,?_⟩) hS ?_
                          rotate_left
                          · (intro w hSw;(try dsimp only at hSw);go_simp;(try with_reducible rfl))
                          rotate_left
                          simp only [Act.put,zq0,zq1,zq2,zq3,zq4,zq5]
                          refine wpAnyH_take (i:=7) (v:=?_) rfl (by kernel_rfl) (by kernel_rfl) (by kernel_rfl) (fun _ _ _ h=>h) (Or.inl ⟨by rfl,?_⟩) hS ?_
                          rotate_left
                          · (intro w hSw;(try dsimp only at hSw);go_simp;(try with_reducible rfl))
                          rotate_left
                          simp only [Act.put,zq0,zq1,zq2,zq3,zq4,zq5]
                          refine wpAnyH_take (i:=8) (v:=?_) rfl (by kernel_rfl) (by kernel_rfl) (by kernel_rfl) (fun _ _ _ h=>h) (Or.inl ⟨by rfl,?_⟩) hS ?_
                          rotate_left
                          · (intro w hSw;(try dsimp only at hSw);go_simp;(try with_reducible rfl))
                          rotate_left
                          simp only [Act.put,zq0,zq1,zq2,zq3,zq4,zq5]
                          refine wpAnyH_take (i:=9) (v:=?_) rfl (by kernel_rfl) (by kernel_rfl) (by kernel_rfl) (fun _ _ _ h=>h) (Or.inl ⟨by rfl,?_⟩) hS ?_
                          rotate_left
                          · (intro w hSw;(try dsimp only at hSw);go_simp;(try with_reducible rfl))
                          rotate_left
                          simp only [Act.put,zq0,zq1,zq2,zq3,zq4,zq5]
                          refine wpAnyH_take (i:=10) (v:=?_) rfl (by kernel_rfl) (by kernel_rfl) (by kernel_rfl) (fun _ _ _ h=>h) (Or.inl ⟨by rfl,?_⟩) hS ?_
                          rotate_left
                          · (intro w hSw;(try dsimp only at hSw);go_simp;(try with_reducible rfl))
                          rotate_left
                          simp only [Act.put,zq0,zq1,zq2,zq3,zq4,zq5]
                          refine wpAnyH_take (i:=11) (v:=?_) rfl (by kernel_rfl) (by kernel_rfl) (by kernel_rfl) (fun _ _ _ h=>h) (Or.inl ⟨by rfl,?_⟩) hS ?_
                          rotate_left
                          · (intro w hSw;(try dsimp only at hSw);go_simp;(try with_reducible rfl))
                          rotate_left
                          simp only [Act.put,zq0,zq1,zq2,zq3,zq4,zq5]
                          refine wpAnyH_take (i:=12) (v:=?_) rfl (by kernel_rfl) (by kernel_rfl) (by kernel_rfl) (fun _ _ _ h=>h) (Or.inl ⟨by rfl,?_⟩) hS ?_
                          rotate_left
                          · (intro w hSw;(try dsimp only at hSw);go_simp;(try with_reducible rfl))
                          rotate_left
                          simp only [Act.put,zq0,zq1,zq2,zq3,zq4,zq5]
                          refine wpAnyH_take (i:=13) (v:=?_) rfl (by kernel_rfl) (by kernel_rfl) (by kernel_rfl) (fun _ _ _ h=>h) (Or.inl ⟨by rfl,?_⟩) hS ?_
                          rotate_left
                          · (intro w hSw;(try dsimp only at hSw);go_simp;(try with_reducible rfl))
                          rotate_left
                          simp only [Act.put,zq0,zq1,zq2,zq3,zq4,zq5]
                          refine wpAnyH_take (i:=14) (v:=?_) rfl (by kernel_rfl) (by kernel_rfl) (by kernel_rfl) (fun _ _ _ h=>h) (Or.inl ⟨by rfl,?_⟩) hS ?_
                          rotate_left
                          · (intro w hSw;(try dsimp only at hSw);go_simp;(try with_reducible rfl))
                          rotate_left
                          simp only [Act.put,zq0,zq1,zq2,zq3,zq4,zq5]
                          refine wpAnyH_take (i:=15) (v:=?_) rfl (by kernel_rfl) (by kernel_rfl) (by kernel_rfl) (fun _ _ _ h=>h) (Or.inl ⟨by rfl,?_⟩) hS ?_
                          rotate_left
                          · (intro w hSw;(try dsimp only at hSw);go_simp;(try with_reducible rfl))
                          rotate_left
                          simp only [Act.put,zq0,zq1,zq2,zq3,zq4,zq5]
                          refine wpAnyH_take (i:=16) (v:=?_) rfl (by kernel_rfl) (by kernel_rfl) (by kernel_rfl) (fun _ _ _ h=>h) (Or.inl ⟨by rfl,?_⟩) hS ?_
                          rotate_left
                          · (intro w hSw;(try dsimp only at hSw);go_simp;(try with_reducible rfl))
                          rotate_left
                          simp only [Act.put,zq0,zq1,zq2,zq3,zq4,zq5]
                          refine wpAnyH_take (i:=17) (v:=?_) rfl (by kernel_rfl) (by kernel_rfl) (by kernel_rfl) (fun _ _ _ h=>h) (Or.inl ⟨by rfl,?_⟩) hS ?_
                          rotate_left
                          · (intro w hSw;(try dsimp only at hSw);go_simp;(try with_reducible rfl))
                          rotate_left
                          simp only [Act.put,zq0,zq1,zq2,zq3,zq4,zq5]
                          refine wpAnyH_done (by kernel_rfl) ?_ _
                          have b1:=hS.1
                          clear hS
                          go_wp2_with fail
                          go_meet
                          exact ⟨rfl,b1⟩
                        · have h7 : sv = false:=by rw [HSV.out,decide_eq_false h5,decide_eq_false h6];rfl
                          subst h7
                          refine wpAnyH_take (i:=0) (v:=?_) rfl (by kernel_rfl) (by kernel_rfl) (by kernel_rfl) (fun _ _ _ h=>h) (Or.inl ⟨by rfl,?_⟩) hS ?_
                          rotate_left
                          · (intro w hSw;(try dsimp only at hSw);go_simp;(try with_reducible rfl))
                          rotate_left
                          simp only [Act.put,zq0,zq1,zq2,zq3,zq4,zq5]
                          refine wpAnyH_take (i:=1) (v:=?_) rfl (by kernel_rfl) (by kernel_rfl) (by kernel_rfl) (fun _ _ _ h=>h) (Or.inl ⟨by rfl,?_⟩) hS ?_
                          rotate_left
                          · (intro w hSw;(try dsimp only at hSw);go_simp;(try with_reducible rfl))
                          rotate_left
                          simp only [Act.put,zq0,zq1,zq2,zq3,zq4,zq5]
                          refine wpAnyH_take (i:=2) (v:=?_) rfl (by kernel_rfl) (by kernel_rfl) (by kernel_rfl) (fun _ _ _ h=>h) (Or.inl ⟨by rfl,?_⟩) hS ?_
                          rotate_left
                          · (intro w hSw;(try dsimp only at hSw);go_simp;(try with_reducible rfl))
                          rotate_left
                          simp only [Act.put,zq0,zq1,zq2,zq3,zq4,zq5]
                          refine wpAnyH_take (i:=3) (v:=?_) rfl (by kernel_rfl) (by kernel_rfl) (by kernel_rfl) (fun _ _ _ h=>h) (Or.inl ⟨by rfl,?_⟩) hS ?_
                          rotate_left
                          · (intro w hSw;(try dsimp only at hSw);go_simp;(try with_reducible rfl))
                          rotate_left
                          simp only [Act.put,zq0,zq1,zq2,zq3,zq4,zq5]
                          refine wpAnyH_take (i:=4) (v:=?_) rfl (by kernel_rfl) (by kernel_rfl) (by kernel_rfl) (fun _ _ _ h=>h) (Or.inl ⟨by rfl,?_⟩) hS ?_
                          rotate_left
                          · (intro w hSw;(try dsimp only at hSw);go_simp;(try with_reducible rfl))
                          rotate_left
                          simp only [Act.put,zq0,zq1,zq2,zq3,zq4,zq5]
                          refine wpAnyH_take (i:=5) (v:=?_) rfl (by kernel_rfl) (by kernel_rfl) (by kernel_rfl) (fun _ _ _ h=>h) (Or.inl ⟨by rfl,?_⟩) hS ?_
                          rotate_left
                          · (intro w hSw;(try dsimp only at hSw);go_simp;(try with_reducible rfl))
                          rotate_left
                          simp only [Act.put,zq0,zq1,zq2,zq3,zq4,zq5]
                          refine wpAnyH_take (i:=6) (v:=?_) rfl (by kernel_rfl) (by kernel_rfl) (by kernel_rfl) (fun _ _ _ h=>h) (Or.inl ⟨by rfl,?_⟩) hS ?_
                          rotate_left
                          · (intro w hSw;(try dsimp only at hSw);go_simp;(try with_reducible rfl))
                          rotate_left
                          simp only [Act.put,zq0,zq1,zq2,zq3,zq4,zq5]
                          refine wpAnyH_take (i:=7) (v:=?_) rfl (by kernel_rfl) (by kernel_rfl) (by kernel_rfl) (fun _ _ _ h=>h) (Or.inl ⟨by rfl,?_⟩) hS ?_
                          rotate_left
                          · (intro w hSw;(try dsimp only at hSw);go_simp;(try with_reducible rfl))
                          rotate_left
                          simp only [Act.put,zq0,zq1,zq2,zq3,zq4,zq5]
                          refine wpAnyH_take (i:=8) (v:=?_) rfl (by kernel_rfl) (by kernel_rfl) (by kernel_rfl) (fun _ _ _ h=>h) (Or.inl ⟨by rfl,?_⟩) hS ?_
                          rotate_left
                          · (intro w hSw;(try dsimp only at hSw);go_simp;(try with_reducible rfl))
                          rotate_left
                          simp only [Act.put,zq0,zq1,zq2,zq3,zq4,zq5]
                          refine wpAnyH_take (i:=9) (v:=?_) rfl (by kernel_rfl) (by kernel_rfl) (by kernel_rfl) (fun _ _ _ h=>h) (Or.inl ⟨by rfl,?_⟩) hS ?_
                          rotate_left
                          · (intro w hSw;(try dsimp only at hSw);go_simp;(try with_reducible rfl))
                          rotate_left
                          simp only [Act.put,zq0,zq1,zq2,zq3,zq4,zq5]
                          refine wpAnyH_take (i:=10) (v:=?_) rfl (by kernel_rfl) (by kernel_rfl) (by kernel_rfl) (fun _ _ _ h=>h) (Or.inl ⟨by rfl,?_⟩) hS ?_
                          rotate_left
                          · (intro w hSw;(try dsimp only at hSw);go_simp;(try with_reducible rfl))
                          rotate_left
                          simp only [Act.put,zq0,zq1,zq2,zq3,zq4,zq5]
                          refine wpAnyH_take (i:=11) (v:=?_) rfl (by kernel_rfl) (by kernel_rfl) (by kernel_rfl) (fun _ _ _ h=>h) (Or.inl ⟨by rfl,?_⟩) hS ?_
                          rotate_left
                          · (intro w hSw;(try dsimp only at hSw);go_simp;(try with_reducible rfl))
                          rotate_left
                          simp only [Act.put,zq0,zq1,zq2,zq3,zq4,zq5]
                          refine wpAnyH_take (i:=12) (v:=?_) rfl (by kernel_rfl) (by kernel_rfl) (by kernel_rfl) (fun _ _ _ h=>h) (Or.inl ⟨by rfl,?_⟩) hS ?_
                          rotate_left
                          · (intro w hSw;(try dsimp only at hSw);go_simp;(try with_reducible rfl))
                          rotate_left
                          simp only [Act.put,zq0,zq1,zq2,zq3,zq4,zq5]
                          refine wpAnyH_take (i:=13) (v:=?_) rfl (by kernel_rfl) (by kernel_rfl) (by kernel_rfl) (fun _ _ _ h=>h) (Or.inl ⟨by rfl,?_⟩) hS ?_
                          rotate_left
                          · (intro w hSw;(try dsimp only at hSw);go_simp;(try with_reducible rfl))
                          rotate_left
                          simp only [Act.put,zq0,zq1,zq2,zq3,zq4,zq5]
                          refine wpAnyH_take (i:=14) (v:=?_) rfl (by kernel_rfl) (by kernel_rfl) (by kernel_rfl) (fun _ _ _ h=>h) (Or.inl ⟨by rfl,?_⟩) hS ?_
                          rotate_left
                          · (intro w hSw;(try dsimp only at hSw);go_simp;(try with_reducible rfl))
                          rotate_left
                          simp only [Act.put,zq0,zq1,zq2,zq3,zq4,zq5]
                          refine wpAnyH_take (i:=15) (v:=?_) rfl (by kernel_rfl) (by kernel_rfl) (by kernel_rfl) (fun _ _ _ h=>h) (Or.inl ⟨by rfl,?_⟩) hS ?_
                          rotate_left
                          · (intro w hSw;(try dsimp only at hSw);go_simp;(try with_reducible rfl))
                          rotate_left
                          simp only [Act.put,zq0,zq1,zq2,zq3,zq4,zq5]
                          refine wpAnyH_take (i:=16) (v:=?_) rfl (by kernel_rfl) (by kernel_rfl) (by kernel_rfl) (fun _ _ _ h=>h) (Or.inl ⟨by rfl,?_⟩) hS ?_
                          rotate_left
                          · (intro w hSw;(try dsimp only at hSw);go_simp;(try with_reducible rfl))
                          rotate_left
                          simp only [Act.put,zq0,zq1,zq2,zq3,zq4,zq5]
                          refine wpAnyH_take (i:=17) (v:=?_) rfl (by kernel_rfl) (by kernel_rfl) (by kernel_rfl) (fun _ _ _ h=>h) (Or.inl ⟨by rfl,?_⟩) hS ?_
                          rotate_left
                          · (intro w hSw;(try dsimp only at hSw);go_simp;(try with_reducible rfl))
                          rotate_left
                          simp only [Act.put,zq0,zq1,zq2,zq3,zq4,zq5]
                          refine wpAnyH_done (by kernel_rfl) ?_ _
                          have b1:=hS.1
                          clear hS
                          go_wp2_with fail
                          go_meet
                          exact ⟨rfl,b1⟩
                case rest=>
                obtain ⟨rfl,bc⟩:=hcut
                have F2:=F1.next bc
                have x2:=F2.cell
                rw [← HNZ.out] at x2
                have k2:=(bc.cell (p:=⟨bs,os + k,none⟩) (block_lt_of_cell ks)).trans ks
                have bz:=Ext.trans bk bc
                clear x1 y1 ks kq F1 G1 F2 bk bc HSV
                cases wv with
                | false=>
                  have hw : blksDone ls so ((fS g).take (k + 1)) (fQ g) = false:=HNW.out
                  go_wp2
                  refine ⟨⟨k + 1,HLK.out,by first | exact round_same HWK | go_num,by rw [hw],bz⟩,by first | exact round_less HWK HLK.out | (have h:=HLK.out;simp [intOf];omega)⟩
                | true=>
                by_cases h3 : st = 3
                · have hw : blksDone ls so ((fS g).take (k + 1)) (fQ g) = true:=by rw [HNW.out,decide_eq_true h3];rfl
                  have e3 : ((st : Int) == 3) = true:=by simp;omega
                  clear h3
                  go_wp2
                  refine ⟨⟨k + 1,HLK.out,by first | exact round_same HWK | go_num,by rw [hw],bz⟩,by first | exact round_less HWK HLK.out | (have h:=HLK.out;simp [intOf];omega)⟩
                have e3 : ((st : Int) == 3) = false:=by simp;omega
                have e3' : (st == 3) = false:=by simpa using h3
                by_cases h2 : st = 2
                rotate_left
                · have hw : blksDone ls so ((fS g).take (k + 1)) (fQ g) = false:=by rw [HNW.out,decide_eq_false h3,decide_eq_false h2];rfl
                  have e2 : ((st : Int) == 2) = false:=by simp;omega
                  have e2' : (st == 2) = false:=by simpa using h2
                  clear h3 h2
                  go_wp2
                  refine ⟨⟨k + 1,HLK.out,by first | exact round_same HWK | go_num,by rw [hw],bz⟩,by first | exact round_less HWK HLK.out | (have h:=HLK.out;simp [intOf];omega)⟩
                have e2 : ((st : Int) == 2) = true:=by simp;omega
                have e2' : (st == 2) = true:=by simpa using h2
                have hw2 : Hid (blksDone ls so ((fS g).take (k + 1)) (fQ g) = (so || sv)):=by show _ = _;rw [HNW.out,decide_eq_false h3,decide_eq_true h2];rfl
                clear h3 h2
                cases sv with
                | true=>
                  have hw : blksDone ls so ((fS g).take (k + 1)) (fQ g) = true:=by rw [hw2.out,Bool.or_true]
                  go_wp2
                  refine ⟨⟨k + 1,HLK.out,by first | exact round_same HWK | go_num,by rw [hw],bz⟩,by first | exact round_less HWK HLK.out | (have h:=HLK.out;simp [intOf];omega)⟩
                | false=>
                cases back with
                | false=>
                  have hw : blksDone ls so ((fS g).take (k + 1)) (fQ g) = false:=by rw [hw2.out,HSO.out];rfl
                  go_wp2
                  refine ⟨⟨k + 1,HLK.out,by first | exact round_same HWK | go_num,by rw [hw],bz⟩,by first | exact round_less HWK HLK.out | (have h:=HLK.out;simp [intOf];omega)⟩
                | true=>
                rcases Bool.eq_false_or_eq_true (kI g != 3) with e9 | e9
                · have hw : blksDone ls so ((fS g).take (k + 1)) (fQ g) = true:=by rw [hw2.out,HSO.out,Bool.true_and,Bool.or_false];exact decide_eq_true (by simpa using e9)
                  go_wp2
                  refine ⟨⟨k + 1,HLK.out,by first | exact round_same HWK | go_num,by rw [hw],bz⟩,by first | exact round_less HWK HLK.out | (have h:=HLK.out;simp [intOf];omega)⟩
                · have hw : blksDone ls so ((fS g).take (k + 1)) (fQ g) = false:=by rw [hw2.out,HSO.out,Bool.true_and,Bool.or_false];exact decide_eq_false (by simpa using e9)
                  go_wp2
                  refine ⟨⟨k + 1,HLK.out,by first | exact round_same HWK | go_num,by rw [hw],bz⟩,by first | exact round_less HWK HLK.out | (have h:=HLK.out;simp [intOf];omega)⟩
              · have hall : (fS g).take k = fS g:=List.take_of_length_le (by have:=HNZ.out;omega)
                have b11:=Ext.trans HBZ.out bk
                have x1:=(HFZ.out.next bk).cell
                rw [← HNZ.out] at x1
                rw [hall,← HAW.out]
                clear hall bk
                go_wp2
                go_roundw
                case rel=>
                      try rw [HWJ.out]
                      try rw [hw2]
                      repeat apply Exists.intro
                      refine And.intro ?_ rfl
                      refine ⟨j + 1,HJN.out,rfl,?_,b11⟩
                      rw [HNEXT.out]
                      first | rfl | (rw [hwd];rfl) | simp
                case measure=>first | exact round_less HWJ HJN.out | (have h:=HJN.out;simp [intOf];omega)
       | false=>
         have HNO:=Lib.hid (hno rfl)
         clear hyes hno
         by_cases hdl : dn < yl
         · have hdy : dn < ys.length:=by have:=HYN.out;omega
           have hdm : dn < (ys.map rpOf).length:=by rw [List.length_map];exact hdy
           obtain ⟨gq4,u4,e4,k0,_⟩:=told_at HT9.out (j:=dn) hdm
           subst e4
           have hnum : ((ys.map rpOf)[dn]'hdm).1 = fN (ys[dn]'hdy):=by rw [List.getElem_map];rfl
           have hne:=HNO.out hdy
           rw [hnum] at k0
           generalize fN (ys[dn]'hdy) = q9 at *
           have e9 : (q9 == fN g) = false:=by simpa using hne
           clear hnum hne HNO
           as_aux_lemma=>
           go_upto_region 17 with fail
           have LB:=cell_lt q0
           have LG:=cell_lt k0
           have HS : Hid (∀ w',Below wr.heap.size wr w' → (Below wr.heap.size wr w' ∧ w'.cell? ⟨gq4,dn * 4,none⟩ = some (.int .i64 (q9)) ∧ w'.cell? ⟨bb,off + j * 8,none⟩ = some (.int .i64 (fN g)))):=fun w' bw=>⟨bw,by rw [bw.cell (p:=⟨gq4,dn * 4,none⟩) LG];exact k0,by rw [bw.cell (p:=⟨bb,off + j * 8,none⟩) LB];exact q0⟩
           have HSD:=HS.out _ (Ext.drew (Below.refl wr.heap.size wr))
           clear q0 k0 LB LG
           refine wp_region_held_drew (S:=fun w'=>Below wr.heap.size wr w' ∧ w'.cell? ⟨gq4,dn * 4,none⟩ = some (.int .i64 (q9)) ∧ w'.cell? ⟨bb,off + j * 8,none⟩ = some (.int .i64 (fN g))) (by kernel_rfl) HSD (fun hS=>?_)
           clear HSD
           refine wpAnyH_take (i:=0) (v:=?_) rfl (by kernel_rfl) (by kernel_rfl) (by kernel_rfl) (fun _ _ _ h=>h) (Or.inl ⟨by rfl,?_⟩) hS ?_
           rotate_left
           · (intro w hSw;(try dsimp only at hSw);go_simp;(try with_reducible rfl))
           rotate_left
           simp only [Act.put,zq0,zq1,zq2,zq3,zq4,zq5]
           refine wpAnyH_take (i:=1) (v:=?_) rfl (by kernel_rfl) (by kernel_rfl) (by kernel_rfl) (fun _ _ _ h=>h) (Or.inl ⟨by rfl,?_⟩) hS ?_
           rotate_left
           · (intro w hSw;(try dsimp only at hSw);go_simp;(try with_reducible rfl))
           rotate_left
           simp only [Act.put,zq0,zq1,zq2,zq3,zq4,zq5]
           refine wpAnyH_take (i:=2) (v:=?_) rfl (by kernel_rfl) (by kernel_rfl) (by kernel_rfl) (fun _ _ _ h=>h) (Or.inl ⟨by rfl,?_⟩) hS ?_
           rotate_left
           · (intro w hSw;(try dsimp only at hSw);go_simp;(try with_reducible rfl))
           rotate_left
           simp only [Act.put,zq0,zq1,zq2,zq3,zq4,zq5]
           refine wpAnyH_take (i:=3) (v:=?_) rfl (by kernel_rfl) (by kernel_rfl) (by kernel_rfl) (fun _ _ _ h=>h) (Or.inl ⟨by rfl,?_⟩) hS ?_
           rotate_left
           · (intro w hSw;(try dsimp only at hSw);go_simp;(try with_reducible rfl))
           rotate_left
           simp only [Act.put,zq0,zq1,zq2,zq3,zq4,zq5]
           refine wpAnyH_take (i:=4) (v:=?_) rfl (by kernel_rfl) (by kernel_rfl) (by kernel_rfl) (fun _ _ _ h=>h) (Or.inl ⟨by rfl,?_⟩) hS ?_
           rotate_left
           · (intro w hSw;(try dsimp only at hSw);go_simp;(try with_reducible rfl))
           rotate_left
           simp only [Act.put,zq0,zq1,zq2,zq3,zq4,zq5]
           refine wpAnyH_take (i:=5) (v:=?_) rfl (by kernel_rfl) (by kernel_rfl) (by kernel_rfl) (fun _ _ _ h=>h) (Or.inl ⟨by rfl,?_⟩) hS ?_
           rotate_left
           · (intro w hSw;(try dsimp only at hSw);go_simp;(try with_reducible rfl))
           rotate_left
           simp only [Act.put,zq0,zq1,zq2,zq3,zq4,zq5]
           refine wpAnyH_take (i:=6) (v:=?_) rfl (by kernel_rfl) (by kernel_rfl) (by kernel_rfl) (fun _ _ _ h=>h) (Or.inl ⟨by rfl,?_⟩) hS ?_
           rotate_left
           · (intro w hSw;(try dsimp only at hSw);go_simp;(try with_reducible rfl))
           rotate_left
           simp only [Act.put,zq0,zq1,zq2,zq3,zq4,zq5]
           refine wpAnyH_take (i:=7) (v:=?_) rfl (by kernel_rfl) (by kernel_rfl) (by kernel_rfl) (fun _ _ _ h=>h) (Or.inl ⟨by rfl,?_⟩) hS ?_
           rotate_left
           · (intro w hSw;(try dsimp only at hSw);go_simp;(try with_reducible rfl))
           rotate_left
           simp only [Act.put,zq0,zq1,zq2,zq3,zq4,zq5]
           refine wpAnyH_take (i:=8) (v:=?_) rfl (by kernel_rfl) (by kernel_rfl) (by kernel_rfl) (fun _ _ _ h=>h) (Or.inl ⟨by rfl,?_⟩) hS ?_
           rotate_left
           · (intro w hSw;(try dsimp only at hSw);go_simp;(try with_reducible rfl))
           rotate_left
           simp only [Act.put,zq0,zq1,zq2,zq3,zq4,zq5]
           refine wpAnyH_take (i:=9) (v:=?_) rfl (by kernel_rfl) (by kernel_rfl) (by kernel_rfl) (fun _ _ _ h=>h) (Or.inl ⟨by rfl,?_⟩) hS ?_
           rotate_left
           · (intro w hSw;(try dsimp only at hSw);go_simp;(try with_reducible rfl))
           rotate_left
           simp only [Act.put,zq0,zq1,zq2,zq3,zq4,zq5]
           refine wpAnyH_take (i:=10) (v:=?_) rfl (by kernel_rfl) (by kernel_rfl) (by kernel_rfl) (fun _ _ _ h=>h) (Or.inl ⟨by rfl,?_⟩) hS ?_
           rotate_left
           · (intro w hSw;(try dsimp only at hSw);go_simp;(try with_reducible rfl))
           rotate_left
           simp only [Act.put,zq0,zq1,zq2,zq3,zq4,zq5]
           refine wpAnyH_take (i:=11) (v:=?_) rfl (by kernel_rfl) (by kernel_rfl) (by kernel_rfl) (fun _ _ _ h=>h) (Or.inl ⟨by rfl,?_⟩) hS ?_
           rotate_left
           · (intro w hSw;(try dsimp only at hSw);go_simp;(try with_reducible rfl))
           rotate_left
           simp only [Act.put,zq0,zq1,zq2,zq3,zq4,zq5]
           refine wpAnyH_take (i:=12) (v:=?_) rfl (by kernel_rfl) (by kernel_rfl) (by kernel_rfl) (fun _ _ _ h=>h) (Or.inl ⟨by rfl,?_⟩) hS ?_
           rotate_left
           · (intro w hSw;(try dsimp only at hSw);go_simp;(try with_reducible rfl))
           rotate_left
           simp only [Act.put,zq0,zq1,zq2,zq3,zq4,zq5]
           refine wpAnyH_take (i:=13) (v:=?_) rfl (by kernel_rfl) (by kernel_rfl) (by kernel_rfl) (fun _ _ _ h=>h) (Or.inl ⟨by rfl,?_⟩) hS ?_
           rotate_left
           · (intro w hSw;(try dsimp only at hSw);go_simp;(try with_reducible rfl))
           rotate_left
           simp only [Act.put,zq0,zq1,zq2,zq3,zq4,zq5]
           refine wpAnyH_take (i:=14) (v:=?_) rfl (by kernel_rfl) (by kernel_rfl) (by kernel_rfl) (fun _ _ _ h=>h) (Or.inl ⟨by rfl,?_⟩) hS ?_
           rotate_left
           · (intro w hSw;(try dsimp only at hSw);go_simp;(try with_reducible rfl))
           rotate_left
           simp only [Act.put,zq0,zq1,zq2,zq3,zq4,zq5]
           refine wpAnyH_take (i:=15) (v:=?_) rfl (by kernel_rfl) (by kernel_rfl) (by kernel_rfl) (fun _ _ _ h=>h) (Or.inl ⟨by rfl,?_⟩) hS ?_
           rotate_left
           · (intro w hSw;(try dsimp only at hSw);go_simp;(try with_reducible rfl))
           rotate_left
           simp only [Act.put,zq0,zq1,zq2,zq3,zq4,zq5]
           refine wpAnyH_take (i:=16) (v:=?_) rfl (by kernel_rfl) (by kernel_rfl) (by kernel_rfl) (fun _ _ _ h=>h) (Or.inl ⟨by rfl,?_⟩) hS ?_
           rotate_left
           · (intro w hSw;(try dsimp only at hSw);go_simp;(try with_reducible rfl))
           rotate_left
           simp only [Act.put,zq0,zq1,zq2,zq3,zq4,zq5]
           refine wpAnyH_take (i:=17) (v:=?_) rfl (by kernel_rfl) (by kernel_rfl) (by kernel_rfl) (fun _ _ _ h=>h) (Or.inl ⟨by rfl,?_⟩) hS ?_
           rotate_left
           · (intro w hSw;(try dsimp only at hSw);go_simp;(try with_reducible rfl))
           rotate_left
           simp only [Act.put,zq0,zq1,zq2,zq3,zq4,zq5]
           refine wpAnyH_done (by kernel_rfl) ?_ _
           clear hS HS
           have D10:=Ext.drew (Below.refl wr.heap.size wr)
           have G10:=G9.next D10
           have b10:=Ext.trans b9 D10
           have t10:=Ext.trans t9 D10
           have HFD : Hid (∀ w',Below wr.drew.heap.size wr.drew w' → (w'.cell? ⟨bb,off + j * 8,none⟩ = some (.int .i64 (fN g)) ∧ w'.cell? ⟨bb,off + j * 8 + 1,none⟩ = some (.int .u8 (kI g)) ∧ w'.cell? ⟨bb,off + j * 8 + 2,none⟩ = some (.int .i64 (fA g)) ∧ w'.cell? ⟨bb,off + j * 8 + 3,none⟩ = some (.int .i64 (fM g)) ∧ w'.cell? ⟨bb,off + j * 8 + 4,none⟩ = some (.slice Ab (fD g).length cb) ∧ w'.cell? ⟨bb,off + j * 8 + 5,none⟩ = some (.slice As (fS g).length cs) ∧ w'.cell? ⟨bb,off + j * 8 + 6,none⟩ = some (.slice Aq (fQ g).length cq) ∧ w'.cell? ⟨bb,off + j * 8 + 7,none⟩ = some (.slice Ax (fB g).length cx))):=fun w' bw=>HFC.out w' (Ext.trans D10 bw)
           obtain ⟨p0,p1,p2,p3,p4,p5,p6,p7⟩:=HFC.out _ D10
           have HS3:=Lib.hid (HR2.out.below D10)
           have HQ3:=Lib.hid (HR3.out.below D10)
           clear D10 HFC HR2 HR3
           have hwd:=HWD.out
           generalize wr.drew = w10 at *
           have F0:=BoxOf.new w10 #[.int .i64 (fN g),.int .u8 (kI g),.int .i64 (fA g),.int .i64 (fM g),.slice Ab (fD g).length cb,.slice As (fS g).length cs,.slice Aq (fQ g).length cq,.slice Ax (fB g).length cx] 67
           have bA:=Ext.alloc (Below.refl w10.heap.size w10) (.cells #[.int .i64 (fN g),.int .u8 (kI g),.int .i64 (fA g),.int .i64 (fM g),.slice Ab (fD g).length cb,.slice As (fS g).length cs,.slice Aq (fQ g).length cq,.slice Ax (fB g).length cx] 67)
           have G11:=G10.next bA
           have t11:=Ext.trans t10 bA
           have b11:=Ext.trans b10 bA
           have HS4:=Lib.hid (HS3.out.below bA)
           have HQ4:=Lib.hid (HQ3.out.below bA)
           go_upto_region 21 with fail
           generalize w10.alloc (.cells #[.int .i64 (fN g),.int .u8 (kI g),.int .i64 (fA g),.int .i64 (fM g),.slice Ab (fD g).length cb,.slice As (fS g).length cs,.slice Aq (fQ g).length cq,.slice Ax (fB g).length cx] 67) = w11 at *
           obtain ⟨gf,hgf⟩ : ∃ z : Nat,z = w10.heap.size:=⟨_,rfl⟩
           rw [← hgf] at F0 ⊢
           clear p0 p1 p2 p3 p4 p5 p6 p7 HS3 HQ3 HFD bA G10 t10 b10 hgf
           have x11:=F0.cell
           have y11:=G11.cell
           by_cases hk4 : kI g = 4
           · have hq1 : ((fQ g).length : Int) = 1:=by have h8:=(oneB_iff.1 HONE.out).2.2.2.2.1;rw [if_pos hk4] at h8;exact h8
             have hq0 : 0 < (fQ g).length:=by omega
             obtain ⟨bq,oq,eq9,hc9⟩:=sq_at HQ4.out hq0
             subst eq9
             rw [Nat.add_zero] at hc9
             have hav : false = (decide ((fQ g)[0] < F) || decide (F = gq)):=by
              rw [HAV.out]
              unfold doneB
              rw [if_pos hk4,Bool.false_or,List.getElem?_eq_getElem hq0,HF2.out]
              rfl
             generalize (fQ g)[0] = q9 at *
             have e4 : (kI g == 4) = true:=by simpa using hk4
             clear hk4 HQ4
             by_cases h5 : q9 < F
             · rw [decide_eq_true h5,Bool.true_or] at hav
               have e5 : (q9 : Int) < (F : Int):=by omega
               clear h5
               first
                | exact absurd hav (by decide)
                | (clear hav
                   go_wp2
                   try rw [HWJ.out]
                   refine ⟨⟨j + 1,HJN.out,by first | rfl | go_num,?_,b11⟩,by simp [intOf];have:=HJN.out;omega⟩
                   rw [HNEXT.out]
                   first | rfl | (rw [hwd];rfl) | simp
                   )
             · have e5 : ¬ (q9 : Int) < (F : Int):=by omega
               rw [decide_eq_false h5,Bool.false_or] at hav
               clear h5
               by_cases h6 : F = gq
               · rw [decide_eq_true h6] at hav
                 have e6 : (F == gq) = true:=by simpa using h6
                 have e7 : ((F : Int) == (gq : Int)) = true:=by simp;omega
                 clear h6
                 first
                      | exact absurd hav (by decide)
                      | (clear hav
                         go_wp2
                         try rw [HWJ.out]
                         refine ⟨⟨j + 1,HJN.out,by first | rfl | go_num,?_,b11⟩,by simp [intOf];have:=HJN.out;omega⟩
                         rw [HNEXT.out]
                         first | rfl | (rw [hwd];rfl) | simp
                         )
               · rw [decide_eq_false h6] at hav
                 have e6 : (F == gq) = false:=by simpa using h6
                 have e7 : ((F : Int) == (gq : Int)) = false:=by simp;omega
                 clear h6
                 first
                      | exact absurd hav (by decide)
                      | (clear hav
                         go_wp2
                         try rw [HWJ.out]
                         refine ⟨⟨j + 1,HJN.out,by first | rfl | go_num,?_,b11⟩,by simp [intOf];have:=HJN.out;omega⟩
                         rw [HNEXT.out]
                         first | rfl | (rw [hwd];rfl) | simp
                         )
           · have e4 : (kI g == 4) = false:=by simpa using hk4
             by_cases hk6 : kI g = 6
             · have hav : false = (decide (j = 0) && decide (n = 0)):=by
                rw [HAV.out]
                unfold doneB
                rw [if_neg hk4,if_pos hk6,HLN.out]
               have e5 : (kI g == 6) = true:=by simpa using hk6
               clear hk4 hk6
               by_cases h5 : j = 0
               · rw [decide_eq_true h5,Bool.true_and] at hav
                 have e6 : ((j : Int) == 0) = true:=by simp;omega
                 by_cases h6 : n = 0
                 · rw [decide_eq_true h6] at hav
                   have e7 : ((n : Int) == 0) = true:=by simp;omega
                   clear h5 h6
                   first
                       | exact absurd hav (by decide)
                       | (clear hav
                          go_wp2
                          try rw [HWJ.out]
                          refine ⟨⟨j + 1,HJN.out,by first | rfl | go_num,?_,b11⟩,by simp [intOf];have:=HJN.out;omega⟩
                          rw [HNEXT.out]
                          first | rfl | (rw [hwd];rfl) | simp
                          )
                 · rw [decide_eq_false h6] at hav
                   have e7 : ((n : Int) == 0) = false:=by simp;omega
                   clear h5 h6
                   first
                       | exact absurd hav (by decide)
                       | (clear hav
                          go_wp2
                          try rw [HWJ.out]
                          refine ⟨⟨j + 1,HJN.out,by first | rfl | go_num,?_,b11⟩,by simp [intOf];have:=HJN.out;omega⟩
                          rw [HNEXT.out]
                          first | rfl | (rw [hwd];rfl) | simp
                          )
               · rw [decide_eq_false h5,Bool.false_and] at hav
                 have e6 : ((j : Int) == 0) = false:=by simp;omega
                 clear h5
                 first
                      | exact absurd hav (by decide)
                      | (clear hav
                         go_wp2
                         try rw [HWJ.out]
                         refine ⟨⟨j + 1,HJN.out,by first | rfl | go_num,?_,b11⟩,by simp [intOf];have:=HJN.out;omega⟩
                         rw [HNEXT.out]
                         first | rfl | (rw [hwd];rfl) | simp
                         )
             · have hav : false = blksDone ls (back && decide (kI g ≠ 3)) (fS g) (fQ g):=by
                rw [HAV.out]
                unfold doneB
                rw [if_neg hk4,if_neg hk6]
               obtain ⟨so,hso⟩ : ∃ z : Bool,z = (back && decide (kI g ≠ 3)):=⟨_,rfl⟩
               rw [← hso] at hav
               have HSO:=Lib.hid hso
               obtain ⟨nz,hnz⟩ : ∃ z : Nat,z = (fS g).length:=⟨_,rfl⟩
               have HNZ:=Lib.hid hnz
               have HMZ : Hid (nz ≤ maxLen):=by show nz ≤ maxLen;rw [hnz];exact byte_max HS4.out
               have HLE : Hid ((fS g).length ≤ (fQ g).length):=by
                have h8:=oneB_iff.1 HONE.out
                have h5:=h8.2.2.2.2.1
                rw [if_neg hk4] at h5
                have h3:=h8.2.2.1
                show _ ≤ _
                omega
               have HAW:=Lib.hid hav
               have e6 : (kI g == 6) = false:=by simpa using hk6
               obtain ⟨wq,hwq⟩ : ∃ z : World,z = w11:=⟨_,rfl⟩
               have b0 : Below wq.heap.size wq w11:=by rw [hwq];exact Below.refl _ _
               have HTZ : Hid (Below w.heap.size w wq):=by show Below _ _ _;rw [hwq];exact t11
               have HBZ : Hid (Below wp.heap.size wp wq):=by show Below _ _ _;rw [hwq];exact b11
               have HFZ : Hid (BoxOf wq gf #[.int .i64 (fN g),.int .u8 (kI g),.int .i64 (fA g),.int .i64 (fM g),.slice Ab (fD g).length cb,.slice As (fS g).length cs,.slice Aq (fQ g).length cq,.slice Ax (fB g).length cx] 67):=by show BoxOf _ _ _ _;rw [hwq];exact F0
               have HGZ : Hid (BoxOf wq (w.heap.size + 1) #[.int .u32 (ga : Int),.int .u32 (gq : Int),.int .i64 gt,.int .i64 gu,.slice L n lc] 60):=by show BoxOf _ _ _ _;rw [hwq];exact G11
               rw [← hwq] at HS4 HQ4
               rw [← hnz] at x11
               clear hwq hk4 hk6 hso hav hnz t11 b11 F0 G11 HAV HONE HR9 HT9
               go_wp2
               clear x11 y11
               go_loopw [19,20] (fun wv i wr=>∃ (k : Nat),k ≤ nz ∧ i = .int .i64 (k : Int) ∧ wv = .bool (blksDone ls so ((fS g).take k) (fQ g)) ∧ Below wq.heap.size wq wr) (fun _ i _=>nz - (intOf i).toNat)
               case atStart=>exact ⟨0,Nat.zero_le _,rfl,by rw [List.take_zero,blksDone_none],b0⟩
               case round=>
                as_aux_lemma=>
                obtain ⟨k,hk,rfl,rfl,bk⟩:=hrel
                clear b0
                by_cases hlt9 : k < nz
                · have hks : k < (fS g).length:=by have:=HNZ.out;omega
                  have hkq : k < (fQ g).length:=by have:=HLE.out;omega
                  have HNW:=Lib.hid (HF3.out so (fS g) (fQ g) k hks hkq)
                  obtain ⟨bs,os,hAs,ks⟩:=st_at (HS4.out.below bk) hks
                  obtain ⟨bq,oq,hAq,kq⟩:=sq_at (HQ4.out.below bk) hkq
                  obtain ⟨wv,hwv⟩ : ∃ z : Bool,z = blksDone ls so ((fS g).take k) (fQ g):=⟨_,rfl⟩
                  obtain ⟨st,hst⟩ : ∃ z : Nat,z = (fS g)[k].toNat:=⟨_,rfl⟩
                  rw [← hwv,← hst] at HNW
                  rw [← hwv]
                  rw [← hst] at ks
                  generalize (fQ g)[k] = sq at *
                  obtain ⟨sv,hsv⟩ : ∃ z : Bool,z = (decide (sq < F) || decide (gq ≤ sq)):=⟨_,rfl⟩
                  rw [← hsv] at HNW
                  have HSV:=Lib.hid hsv
                  subst hAs hAq
                  have HWK:=next_wrap HMZ.out hlt9
                  have HLK:=Lib.hid hlt9
                  have F1:=HFZ.out.next bk
                  have G1:=HGZ.out.next bk
                  have x1:=F1.cell
                  rw [← HNZ.out] at x1
                  have y1:=G1.cell
                  clear hwv hst hsv hks HF3
                  go_upto_region 26 with fail
                  go_cut [21] (fun s9 wx=>s9 = .bool sv ∧ Below wr.heap.size wr wx)
                  case first=>
                       have HSX : Hid (∀ w',Below wr.heap.size wr w' → (Below wr.heap.size wr w' ∧ (∀ o,w'.cell? ⟨gf,o,none⟩ = (#[.int .i64 (fN g),.int .u8 (kI g),.int .i64 (fA g),.int .i64 (fM g),.slice Ab (fD g).length cb,.slice (some ⟨bs,os,none⟩) nz cs,.slice (some ⟨bq,oq,none⟩) (fQ g).length cq,.slice Ax (fB g).length cx] : Array Value).toList[o]?) ∧ (∀ o,w'.cell? ⟨w.heap.size + 1,o,none⟩ = (#[.int .u32 (ga : Int),.int .u32 (gq : Int),.int .i64 gt,.int .i64 gu,.slice L n lc] : Array Value).toList[o]?) ∧ w'.cell? ⟨bq,oq + k,none⟩ = some (.int .u32 (sq : Int)))):=fun w' bb=>⟨bb,by have h1:=(F1.next bb).cell;rw [← HNZ.out] at h1;exact h1,(G1.next bb).cell,(bb.cell (p:=⟨bq,oq + k,none⟩) (block_lt_of_cell kq)).trans kq⟩
                       clear x1 y1 kq ks
                       have HSD:=HSX.out _ (Ext.drew (Below.refl wr.heap.size wr))
                       refine wp_region_held_drew (S:=fun w'=>Below wr.heap.size wr w' ∧ (∀ o,w'.cell? ⟨gf,o,none⟩ = (#[.int .i64 (fN g),.int .u8 (kI g),.int .i64 (fA g),.int .i64 (fM g),.slice Ab (fD g).length cb,.slice (some ⟨bs,os,none⟩) nz cs,.slice (some ⟨bq,oq,none⟩) (fQ g).length cq,.slice Ax (fB g).length cx] : Array Value).toList[o]?) ∧ (∀ o,w'.cell? ⟨w.heap.size + 1,o,none⟩ = (#[.int .u32 (ga : Int),.int .u32 (gq : Int),.int .i64 gt,.int .i64 gu,.slice L n lc] : Array Value).toList[o]?) ∧ w'.cell? ⟨bq,oq + k,none⟩ = some (.int .u32 (sq : Int))) (by kernel_rfl) HSD (fun hS=>?_)
                       clear HSD
                       by_cases h5 : sq < F
                       · have h6 : sv = true:=by rw [HSV.out,decide_eq_true h5];rfl
                         subst h6
                         refine wpAnyH_take (i:=0) (v:=?_) rfl (by kernel_rfl) (by kernel_rfl) (by kernel_rfl) (fun _ _ _ h=>h) (Or.inl ⟨by rfl,?_⟩) hS ?_
                         rotate_left
                         · (intro w hSw;(try dsimp only at hSw);go_simp;(try with_reducible rfl))
                         rotate_left
                         simp only [Act.put,zq0,zq1,zq2,zq3,zq4,zq5]
                         refine wpAnyH_take (i:=1) (v:=?_) rfl (by kernel_rfl) (by kernel_rfl) (by kernel_rfl) (fun _ _ _ h=>h) (Or.inl ⟨by rfl,?_⟩) hS ?_
                         rotate_left
                         · (intro w hSw;(try dsimp only at hSw);go_simp;(try with_reducible rfl))
                         rotate_left
                         simp only [Act.put,zq0,zq1,zq2,zq3,zq4,zq5]
                         refine wpAnyH_take (i:=2) (v:=?_) rfl (by kernel_rfl) (by kernel_rfl) (by kernel_rfl) (fun _ _ _ h=>h) (Or.inl ⟨by rfl,?_⟩) hS ?_
                         rotate_left
                         · (intro w hSw;(try dsimp only at hSw);go_simp;(try with_reducible rfl))
                         rotate_left
                         simp only [Act.put,zq0,zq1,zq2,zq3,zq4,zq5]
                         refine wpAnyH_take (i:=3) (v:=?_) rfl (by kernel_rfl) (by kernel_rfl) (by kernel_rfl) (fun _ _ _ h=>h) (Or.inl ⟨by rfl,?_⟩) hS ?_
                         rotate_left
                         · (intro w hSw;(try dsimp only at hSw);go_simp;(try with_reducible rfl))
                         rotate_left
                         simp only [Act.put,zq0,zq1,zq2,zq3,zq4,zq5]
                         refine wpAnyH_take (i:=4) (v:=?_) rfl (by kernel_rfl) (by kernel_rfl) (by kernel_rfl) (fun _ _ _ h=>h) (Or.inl ⟨by rfl,?_⟩) hS ?_
                         rotate_left
                         · (intro w hSw;(try dsimp only at hSw);go_simp;(try with_reducible rfl))
                         rotate_left
                         simp only [Act.put,zq0,zq1,zq2,zq3,zq4,zq5]
                         refine wpAnyH_take (i:=5) (v:=?_) rfl (by kernel_rfl) (by kernel_rfl) (by kernel_rfl) (fun _ _ _ h=>h) (Or.inl ⟨by rfl,?_⟩) hS ?_
                         rotate_left
                         · (intro w hSw;(try dsimp only at hSw);go_simp;(try with_reducible rfl))
                         rotate_left
                         simp only [Act.put,zq0,zq1,zq2,zq3,zq4,zq5]
                         refine wpAnyH_take (i:=6) (v:=?_) rfl (by kernel_rfl) (by kernel_rfl) (by kernel_rfl) (fun _ _ _ h=>h) (Or.inl ⟨by rfl,?_⟩) hS ?_
                         rotate_left
                         · (intro w hSw;(try dsimp only at hSw);go_simp;(try with_reducible rfl))
                         rotate_left
                         simp only [Act.put,zq0,zq1,zq2,zq3,zq4,zq5]
                         refine wpAnyH_take (i:=7) (v:=?_) rfl (by kernel_rfl) (by kernel_rfl) (by kernel_rfl) (fun _ _ _ h=>h) (Or.inl ⟨by rfl,?_⟩) hS ?_
                         rotate_left
                         · (intro w hSw;(try dsimp only at hSw);go_simp;(try with_reducible rfl))
                         rotate_left
                         simp only [Act.put,zq0,zq1,zq2,zq3,zq4,zq5]
                         refine wpAnyH_take (i:=8) (v:=?_) rfl (by kernel_rfl) (by kernel_rfl) (by kernel_rfl) (fun _ _ _ h=>h) (Or.inr ⟨by rfl,?_⟩) hS ?_
                         rotate_left
                         · rfl
                         rotate_left
                         simp only [Act.put,zq0,zq1,zq2,zq3,zq4,zq5]
                         refine wpAnyH_take (i:=9) (v:=?_) rfl (by kernel_rfl) (by kernel_rfl) (by kernel_rfl) (fun _ _ _ h=>h) (Or.inr ⟨by rfl,?_⟩) hS ?_
                         rotate_left
                         · rfl
                         rotate_left
                         simp only [Act.put,zq0,zq1,zq2,zq3,zq4,zq5]
                         refine wpAnyH_take (i:=10) (v:=?_) rfl (by kernel_rfl) (by kernel_rfl) (by kernel_rfl) (fun _ _ _ h=>h) (Or.inr ⟨by rfl,?_⟩) hS ?_
                         rotate_left
                         · rfl
                         rotate_left
                         simp only [Act.put,zq0,zq1,zq2,zq3,zq4,zq5]
                         refine wpAnyH_take (i:=11) (v:=?_) rfl (by kernel_rfl) (by kernel_rfl) (by kernel_rfl) (fun _ _ _ h=>h) (Or.inr ⟨by rfl,?_⟩) hS ?_
                         rotate_left
                         · rfl
                         rotate_left
                         simp only [Act.put,zq0,zq1,zq2,zq3,zq4,zq5]
                         refine wpAnyH_take (i:=12) (v:=?_) rfl (by kernel_rfl) (by kernel_rfl) (by kernel_rfl) (fun _ _ _ h=>h) (Or.inr ⟨by rfl,?_⟩) hS ?_
                         rotate_left
                         · rfl
                         rotate_left
                         simp only [Act.put,zq0,zq1,zq2,zq3,zq4,zq5]
                         refine wpAnyH_take (i:=13) (v:=?_) rfl (by kernel_rfl) (by kernel_rfl) (by kernel_rfl) (fun _ _ _ h=>h) (Or.inr ⟨by rfl,?_⟩) hS ?_
                         rotate_left
                         · rfl
                         rotate_left
                         simp only [Act.put,zq0,zq1,zq2,zq3,zq4,zq5]
                         refine wpAnyH_take (i:=14) (v:=?_) rfl (by kernel_rfl) (by kernel_rfl) (by kernel_rfl) (fun _ _ _ h=>h) (Or.inr ⟨by rfl,?_⟩) hS ?_
                         rotate_left
                         · rfl
                         rotate_left
                         simp only [Act.put,zq0,zq1,zq2,zq3,zq4,zq5]
                         refine wpAnyH_take (i:=15) (v:=?_) rfl (by kernel_rfl) (by kernel_rfl) (by kernel_rfl) (fun _ _ _ h=>h) (Or.inr ⟨by rfl,?_⟩) hS ?_
                         rotate_left
                         · rfl
                         rotate_left
                         simp only [Act.put,zq0,zq1,zq2,zq3,zq4,zq5]
                         refine wpAnyH_take (i:=16) (v:=?_) rfl (by kernel_rfl) (by kernel_rfl) (by kernel_rfl) (fun _ _ _ h=>h) (Or.inl ⟨by rfl,?_⟩) hS ?_
                         rotate_left
                         · (intro w hSw;(try dsimp only at hSw);go_simp;(try with_reducible rfl))
                         rotate_left
                         simp only [Act.put,zq0,zq1,zq2,zq3,zq4,zq5]
                         refine wpAnyH_take (i:=17) (v:=?_) rfl (by kernel_rfl) (by kernel_rfl) (by kernel_rfl) (fun _ _ _ h=>h) (Or.inl ⟨by rfl,?_⟩) hS ?_
                         rotate_left
                         · (intro w hSw;(try dsimp only at hSw);go_simp;(try with_reducible rfl))
                         rotate_left
                         simp only [Act.put,zq0,zq1,zq2,zq3,zq4,zq5]
                         refine wpAnyH_done (by kernel_rfl) ?_ _
                         have b1:=hS.1
                         clear hS
                         go_wp2_with fail
                         go_meet
                         exact ⟨rfl,b1⟩
                       · by_cases h6 : gq ≤ sq
                         · have h7 : sv = true:=by rw [HSV.out,decide_eq_false h5,decide_eq_true h6];rfl
                           subst h7
                           refine wpAnyH_take (i:=0) (v:=?_) rfl (by kernel_rfl) (by kernel_rfl) (by kernel_rfl) (fun _ _ _ h=>h) (Or.inl ⟨by rfl,?_⟩) hS ?_
                           rotate_left
                           · (intro w hSw;(try dsimp only at hSw);go_simp;(try with_reducible rfl))
                           rotate_left
                           simp only [Act.put,zq0,zq1,zq2,zq3,zq4,zq5]
                           refine wpAnyH_take (i:=1) (v:=?_) rfl (by kernel_rfl) (by kernel_rfl) (by kernel_rfl) (fun _ _ _ h=>h) (Or.inl ⟨by rfl,?_⟩) hS ?_
                           rotate_left
                           · (intro w hSw;(try dsimp only at hSw);go_simp;(try with_reducible rfl))
                           rotate_left
                           simp only [Act.put,zq0,zq1,zq2,zq3,zq4,zq5]
                           refine wpAnyH_take (i:=2) (v:=?_) rfl (by kernel_rfl) (by kernel_rfl) (by kernel_rfl) (fun _ _ _ h=>h) (Or.inl ⟨by rfl,?_⟩) hS ?_
                           rotate_left
                           · (intro w hSw;(try dsimp only at hSw);go_simp;(try with_reducible rfl))
                           rotate_left
                           simp only [Act.put,zq0,zq1,zq2,zq3,zq4,zq5]
                           refine wpAnyH_take (i:=3) (v:=?_) rfl (by kernel_rfl) (by kernel_rfl) (by kernel_rfl) (fun _ _ _ h=>h) (Or.inl ⟨by rfl,?_⟩) hS ?_
                           rotate_left
                           · (intro w hSw;(try dsimp only at hSw);go_simp;(try with_reducible rfl))
                           rotate_left
                           simp only [Act.put,zq0,zq1,zq2,zq3,zq4,zq5]
                           refine wpAnyH_take (i:=4) (v:=?_) rfl (by kernel_rfl) (by kernel_rfl) (by kernel_rfl) (fun _ _ _ h=>h) (Or.inl ⟨by rfl,?_⟩) hS ?_
                           rotate_left
                           · (intro w hSw;(try dsimp only at hSw);go_simp;(try with_reducible rfl))
                           rotate_left
                           simp only [Act.put,zq0,zq1,zq2,zq3,zq4,zq5]
                           refine wpAnyH_take (i:=5) (v:=?_) rfl (by kernel_rfl) (by kernel_rfl) (by kernel_rfl) (fun _ _ _ h=>h) (Or.inl ⟨by rfl,?_⟩) hS ?_
                           rotate_left
                           · (intro w hSw;(try dsimp only at hSw);go_simp;(try with_reducible rfl))
                           rotate_left
                           simp only [Act.put,zq0,zq1,zq2,zq3,zq4,zq5]
                           refine wpAnyH_take (i:=6) (v:=?_) rfl (by kernel_rfl) (by kernel_rfl) (by kernel_rfl) (fun _ _ _ h=>h) (Or.inl ⟨by rfl,?_⟩) hS ?_
                           rotate_left
                           · (intro w hSw;(try dsimp only at hSw);go_simp;(try with_reducible rfl))
                           rotate_left
                           simp only [Act.put,zq0,zq1,zq2,zq3,zq4,zq5]
                           refine wpAnyH_take (i:=7) (v:=?_) rfl (by kernel_rfl) (by kernel_rfl) (by kernel_rfl) (fun _ _ _ h=>h) (Or.inl ⟨by rfl,?_⟩) hS ?_
                           rotate_left
                           · (intro w hSw;(try dsimp only at hSw);go_simp;(try with_reducible rfl))
                           rotate_left
                           simp only [Act.put,zq0,zq1,zq2,zq3,zq4,zq5]
                           refine wpAnyH_take (i:=8) (v:=?_) rfl (by kernel_rfl) (by kernel_rfl) (by kernel_rfl) (fun _ _ _ h=>h) (Or.inl ⟨by rfl,?_⟩) hS ?_
                           rotate_left
                           · (intro w hSw;(try dsimp only at hSw);go_simp;(try with_reducible rfl))
                           rotate_left
                           simp only [Act.put,zq0,zq1,zq2,zq3,zq4,zq5]
                           refine wpAnyH_take (i:=9) (v:=?_) rfl (by kernel_rfl) (by kernel_rfl) (by kernel_rfl) (fun _ _ _ h=>h) (Or.inl ⟨by rfl,?_⟩) hS ?_
                           rotate_left
                           · (intro w hSw;(try dsimp only at hSw);go_simp;(try with_reducible rfl))
                           rotate_left
                           simp only [Act.put,zq0,zq1,zq2,zq3,zq4,zq5]
                           refine wpAnyH_take (i:=10) (v:=?_) rfl (by kernel_rfl) (by kernel_rfl) (by kernel_rfl) (fun _ _ _ h=>h) (Or.inl ⟨by rfl,?_⟩) hS ?_
                           rotate_left
                           · (intro w hSw;(try dsimp only at hSw);go_simp;(try with_reducible rfl))
                           rotate_left
                           simp only [Act.put,zq0,zq1,zq2,zq3,zq4,zq5]
                           refine wpAnyH_take (i:=11) (v:=?_) rfl (by kernel_rfl) (by kernel_rfl) (by kernel_rfl) (fun _ _ _ h=>h) (Or.inl ⟨by rfl,?_⟩) hS ?_
                           rotate_left
                           · (intro w hSw;(try dsimp only at hSw);go_simp;(try with_reducible rfl))
                           rotate_left
                           simp only [Act.put,zq0,zq1,zq2,zq3,zq4,zq5]
                           refine wpAnyH_take (i:=12) (v:=?_) rfl (by kernel_rfl) (by kernel_rfl) (by kernel_rfl) (fun _ _ _ h=>h) (Or.inl ⟨by rfl,?_⟩) hS ?_
                           rotate_left
                           · (intro w hSw;(try dsimp only at hSw);go_simp;(try with_reducible rfl))
                           rotate_left
                           simp only [Act.put,zq0,zq1,zq2,zq3,zq4,zq5]
                           refine wpAnyH_take (i:=13) (v:=?_) rfl (by kernel_rfl) (by kernel_rfl) (by kernel_rfl) (fun _ _ _ h=>h) (Or.inl ⟨by rfl,?_⟩) hS ?_
                           rotate_left
                           · (intro w hSw;(try dsimp only at hSw);go_simp;(try with_reducible rfl))
                           rotate_left
                           simp only [Act.put,zq0,zq1,zq2,zq3,zq4,zq5]
                           refine wpAnyH_take (i:=14) (v:=?_) rfl (by kernel_rfl) (by kernel_rfl) (by kernel_rfl) (fun _ _ _ h=>h) (Or.inl ⟨by rfl,?_⟩) hS ?_
                           rotate_left
                           · (intro w hSw;(try dsimp only at hSw);go_simp;(try with_reducible rfl))
                           rotate_left
                           simp only [Act.put,zq0,zq1,zq2,zq3,zq4,zq5]
                           refine wpAnyH_take (i:=15) (v:=?_) rfl (by kernel_rfl) (by kernel_rfl) (by kernel_rfl) (fun _ _ _ h=>h) (Or.inl ⟨by rfl,?_⟩) hS ?_
                           rotate_left
                           · (intro w hSw;(try dsimp only at hSw);go_simp;(try with_reducible rfl))
                           rotate_left
                           simp only [Act.put,zq0,zq1,zq2,zq3,zq4,zq5]
                           refine wpAnyH_take (i:=16) (v:=?_) rfl (by kernel_rfl) (by kernel_rfl) (by kernel_rfl) (fun _ _ _ h=>h) (Or.inl ⟨by rfl,?_⟩) hS ?_
                           rotate_left
                           · (intro w hSw;(try dsimp only at hSw);go_simp;(try with_reducible rfl))
                           rotate_left
                           simp only [Act.put,zq0,zq1,zq2,zq3,zq4,zq5]
                           refine wpAnyH_take (i:=17) (v:=?_) rfl (by kernel_rfl) (by kernel_rfl) (by kernel_rfl) (fun _ _ _ h=>h) (Or.inl ⟨by rfl,?_⟩) hS ?_
                           rotate_left
                           · (intro w hSw;(try dsimp only at hSw);go_simp;(try with_reducible rfl))
                           rotate_left
                           simp only [Act.put,zq0,zq1,zq2,zq3,zq4,zq5]
                           refine wpAnyH_done (by kernel_rfl) ?_ _
                           have b1:=hS.1
                           clear hS
                           go_wp2_with fail
                           go_meet
                           exact ⟨rfl,b1⟩
                         · have h7 : sv = false:=by rw [HSV.out,decide_eq_false h5,decide_eq_false h6];rfl
                           subst h7
                           refine wpAnyH_take (i:=0) (v:=?_) rfl (by kernel_rfl) (by kernel_rfl) (by kernel_rfl) (fun _ _ _ h=>h) (Or.inl ⟨by rfl,?_⟩) hS ?_
                           rotate_left
                           · (intro w hSw;(try dsimp only at hSw);go_simp;(try with_reducible rfl))
                           rotate_left
                           simp only [Act.put,zq0,zq1,zq2,zq3,zq4,zq5]
                           refine wpAnyH_take (i:=1) (v:=?_) rfl (by kernel_rfl) (by kernel_rfl) (by kernel_rfl) (fun _ _ _ h=>h) (Or.inl ⟨by rfl,?_⟩) hS ?_
                           rotate_left
                           · (intro w hSw;(try dsimp only at hSw);go_simp;(try with_reducible rfl))
                           rotate_left
                           simp only [Act.put,zq0,zq1,zq2,zq3,zq4,zq5]
                           refine wpAnyH_take (i:=2) (v:=?_) rfl (by kernel_rfl) (by kernel_rfl) (by kernel_rfl) (fun _ _ _ h=>h) (Or.inl ⟨by rfl,?_⟩) hS ?_
                           rotate_left
                           · (intro w hSw;(try dsimp only at hSw);go_simp;(try with_reducible rfl))
                           rotate_left
                           simp only [Act.put,zq0,zq1,zq2,zq3,zq4,zq5]
                           refine wpAnyH_take (i:=3) (v:=?_) rfl (by kernel_rfl) (by kernel_rfl) (by kernel_rfl) (fun _ _ _ h=>h) (Or.inl ⟨by rfl,?_⟩) hS ?_
                           rotate_left
                           · (intro w hSw;(try dsimp only at hSw);go_simp;(try with_reducible rfl))
                           rotate_left
                           simp only [Act.put,zq0,zq1,zq2,zq3,zq4,zq5]
                           refine wpAnyH_take (i:=4) (v:=?_) rfl (by kernel_rfl) (by kernel_rfl) (by kernel_rfl) (fun _ _ _ h=>h) (Or.inl ⟨by rfl,?_⟩) hS ?_
                           rotate_left
                           · (intro w hSw;(try dsimp only at hSw);go_simp;(try with_reducible rfl))
                           rotate_left
                           simp only [Act.put,zq0,zq1,zq2,zq3,zq4,zq5]
                           refine wpAnyH_take (i:=5) (v:=?_) rfl (by kernel_rfl) (by kernel_rfl) (by kernel_rfl) (fun _ _ _ h=>h) (Or.inl ⟨by rfl,?_⟩) hS ?_
                           rotate_left
                           · (intro w hSw;(try dsimp only at hSw);go_simp;(try with_reducible rfl))
                           rotate_left
                           simp only [Act.put,zq0,zq1,zq2,zq3,zq4,zq5]
                           refine wpAnyH_take (i:=6) (v:=?_) rfl (by kernel_rfl) (by kernel_rfl) (by kernel_rfl) (fun _ _ _ h=>h) (Or.inl ⟨by rfl,?_⟩) hS ?_
                           rotate_left
                           · (intro w hSw;(try dsimp only at hSw);go_simp;(try with_reducible rfl))
                           rotate_left
                           simp only [Act.put,zq0,zq1,zq2,zq3,zq4,zq5]
                           refine wpAnyH_take (i:=7) (v:=?_) rfl (by kernel_rfl) (by kernel_rfl) (by kernel_rfl) (fun _ _ _ h=>h) (Or.inl ⟨by rfl,?_⟩) hS ?_
                           rotate_left
                           · (intro w hSw;(try dsimp only at hSw);go_simp;(try with_reducible rfl))
                           rotate_left
                           simp only [Act.put,zq0,zq1,zq2,zq3,zq4,zq5]
                           refine wpAnyH_take (i:=8) (v:=?_) rfl (by kernel_rfl) (by kernel_rfl) (by kernel_rfl) (fun _ _ _ h=>h) (Or.inl ⟨by rfl,?_⟩) hS ?_
                           rotate_left
                           · (intro w hSw;(try dsimp only at hSw);go_simp;(try with_reducible rfl))
                           rotate_left
                           simp only [Act.put,zq0,zq1,zq2,zq3,zq4,zq5]
                           refine wpAnyH_take (i:=9) (v:=?_) rfl (by kernel_rfl) (by kernel_rfl) (by kernel_rfl) (fun _ _ _ h=>h) (Or.inl ⟨by rfl,?_⟩) hS ?_
                           rotate_left
                           · (intro w hSw;(try dsimp only at hSw);go_simp;(try with_reducible rfl))
                           rotate_left
                           simp only [Act.put,zq0,zq1,zq2,zq3,zq4,zq5]
                           refine wpAnyH_take (i:=10) (v:=?_) rfl (by kernel_rfl) (by kernel_rfl) (by kernel_rfl) (fun _ _ _ h=>h) (Or.inl ⟨by rfl,?_⟩) hS ?_
                           rotate_left
                           · (intro w hSw;(try dsimp only at hSw);go_simp;(try with_reducible rfl))
                           rotate_left
                           simp only [Act.put,zq0,zq1,zq2,zq3,zq4,zq5]
                           refine wpAnyH_take (i:=11) (v:=?_) rfl (by kernel_rfl) (by kernel_rfl) (by kernel_rfl) (fun _ _ _ h=>h) (Or.inl ⟨by rfl,?_⟩) hS ?_
                           rotate_left
                           · (intro w hSw;(try dsimp only at hSw);go_simp;(try with_reducible rfl))
                           rotate_left
                           simp only [Act.put,zq0,zq1,zq2,zq3,zq4,zq5]
                           refine wpAnyH_take (i:=12) (v:=?_) rfl (by kernel_rfl) (by kernel_rfl) (by kernel_rfl) (fun _ _ _ h=>h) (Or.inl ⟨by rfl,?_⟩) hS ?_
                           rotate_left
                           · (intro w hSw;(try dsimp only at hSw);go_simp;(try with_reducible rfl))
                           rotate_left
                           simp only [Act.put,zq0,zq1,zq2,zq3,zq4,zq5]
                           refine wpAnyH_take (i:=13) (v:=?_) rfl (by kernel_rfl) (by kernel_rfl) (by kernel_rfl) (fun _ _ _ h=>h) (Or.inl ⟨by rfl,?_⟩) hS ?_
                           rotate_left
                           · (intro w hSw;(try dsimp only at hSw);go_simp;(try with_reducible rfl))
                           rotate_left
                           simp only [Act.put,zq0,zq1,zq2,zq3,zq4,zq5]
                           refine wpAnyH_take (i:=14) (v:=?_) rfl (by kernel_rfl) (by kernel_rfl) (by kernel_rfl) (fun _ _ _ h=>h) (Or.inl ⟨by rfl,?_⟩) hS ?_
                           rotate_left
                           · (intro w hSw;(try dsimp only at hSw);go_simp;(try with_reducible rfl))
                           rotate_left
                           simp only [Act.put,zq0,zq1,zq2,zq3,zq4,zq5]
                           refine wpAnyH_take (i:=15) (v:=?_) rfl (by kernel_rfl) (by kernel_rfl) (by kernel_rfl) (fun _ _ _ h=>h) (Or.inl ⟨by rfl,?_⟩) hS ?_
                           rotate_left
                           · (intro w hSw;(try dsimp only at hSw);go_simp;(try with_reducible rfl))
                           rotate_left
                           simp only [Act.put,zq0,zq1,zq2,zq3,zq4,zq5]
                           refine wpAnyH_take (i:=16) (v:=?_) rfl (by kernel_rfl) (by kernel_rfl) (by kernel_rfl) (fun _ _ _ h=>h) (Or.inl ⟨by rfl,?_⟩) hS ?_
                           rotate_left
                           · (intro w hSw;(try dsimp only at hSw);go_simp;(try with_reducible rfl))
                           rotate_left
                           simp only [Act.put,zq0,zq1,zq2,zq3,zq4,zq5]
                           refine wpAnyH_take (i:=17) (v:=?_) rfl (by kernel_rfl) (by kernel_rfl) (by kernel_rfl) (fun _ _ _ h=>h) (Or.inl ⟨by rfl,?_⟩) hS ?_
                           rotate_left
                           · (intro w hSw;(try dsimp only at hSw);go_simp;(try with_reducible rfl))
                           rotate_left
                           simp only [Act.put,zq0,zq1,zq2,zq3,zq4,zq5]
                           refine wpAnyH_done (by kernel_rfl) ?_ _
                           have b1:=hS.1
                           clear hS
                           go_wp2_with fail
                           go_meet
                           exact ⟨rfl,b1⟩
                  case rest=>
                  obtain ⟨rfl,bc⟩:=hcut
                  have F2:=F1.next bc
                  have x2:=F2.cell
                  rw [← HNZ.out] at x2
                  have k2:=(bc.cell (p:=⟨bs,os + k,none⟩) (block_lt_of_cell ks)).trans ks
                  have bz:=Ext.trans bk bc
                  clear x1 y1 ks kq F1 G1 F2 bk bc HSV
                  cases wv with
                  | false=>
                    have hw : blksDone ls so ((fS g).take (k + 1)) (fQ g) = false:=HNW.out
                    go_wp2
                    refine ⟨⟨k + 1,HLK.out,by first | exact round_same HWK | go_num,by rw [hw],bz⟩,by first | exact round_less HWK HLK.out | (have h:=HLK.out;simp [intOf];omega)⟩
                  | true=>
                  by_cases h3 : st = 3
                  · have hw : blksDone ls so ((fS g).take (k + 1)) (fQ g) = true:=by rw [HNW.out,decide_eq_true h3];rfl
                    have e3 : ((st : Int) == 3) = true:=by simp;omega
                    clear h3
                    go_wp2
                    refine ⟨⟨k + 1,HLK.out,by first | exact round_same HWK | go_num,by rw [hw],bz⟩,by first | exact round_less HWK HLK.out | (have h:=HLK.out;simp [intOf];omega)⟩
                  have e3 : ((st : Int) == 3) = false:=by simp;omega
                  have e3' : (st == 3) = false:=by simpa using h3
                  by_cases h2 : st = 2
                  rotate_left
                  · have hw : blksDone ls so ((fS g).take (k + 1)) (fQ g) = false:=by rw [HNW.out,decide_eq_false h3,decide_eq_false h2];rfl
                    have e2 : ((st : Int) == 2) = false:=by simp;omega
                    have e2' : (st == 2) = false:=by simpa using h2
                    clear h3 h2
                    go_wp2
                    refine ⟨⟨k + 1,HLK.out,by first | exact round_same HWK | go_num,by rw [hw],bz⟩,by first | exact round_less HWK HLK.out | (have h:=HLK.out;simp [intOf];omega)⟩
                  have e2 : ((st : Int) == 2) = true:=by simp;omega
                  have e2' : (st == 2) = true:=by simpa using h2
                  have hw2 : Hid (blksDone ls so ((fS g).take (k + 1)) (fQ g) = (so || sv)):=by show _ = _;rw [HNW.out,decide_eq_false h3,decide_eq_true h2];rfl
                  clear h3 h2
                  cases sv with
                  | true=>
                    have hw : blksDone ls so ((fS g).take (k + 1)) (fQ g) = true:=by rw [hw2.out,Bool.or_true]
                    go_wp2
                    refine ⟨⟨k + 1,HLK.out,by first | exact round_same HWK | go_num,by rw [hw],bz⟩,by first | exact round_less HWK HLK.out | (have h:=HLK.out;simp [intOf];omega)⟩
                  | false=>
                  cases back with
                  | false=>
                    have hw : blksDone ls so ((fS g).take (k + 1)) (fQ g) = false:=by rw [hw2.out,HSO.out];rfl
                    go_wp2
                    refine ⟨⟨k + 1,HLK.out,by first | exact round_same HWK | go_num,by rw [hw],bz⟩,by first | exact round_less HWK HLK.out | (have h:=HLK.out;simp [intOf];omega)⟩
                  | true=>
                  rcases Bool.eq_false_or_eq_true (kI g != 3) with e9 | e9
                  · have hw : blksDone ls so ((fS g).take (k + 1)) (fQ g) = true:=by rw [hw2.out,HSO.out,Bool.true_and,Bool.or_false];exact decide_eq_true (by simpa using e9)
                    go_wp2
                    refine ⟨⟨k + 1,HLK.out,by first | exact round_same HWK | go_num,by rw [hw],bz⟩,by first | exact round_less HWK HLK.out | (have h:=HLK.out;simp [intOf];omega)⟩
                  · have hw : blksDone ls so ((fS g).take (k + 1)) (fQ g) = false:=by rw [hw2.out,HSO.out,Bool.true_and,Bool.or_false];exact decide_eq_false (by simpa using e9)
                    go_wp2
                    refine ⟨⟨k + 1,HLK.out,by first | exact round_same HWK | go_num,by rw [hw],bz⟩,by first | exact round_less HWK HLK.out | (have h:=HLK.out;simp [intOf];omega)⟩
                · have hall : (fS g).take k = fS g:=List.take_of_length_le (by have:=HNZ.out;omega)
                  have b11:=Ext.trans HBZ.out bk
                  have x1:=(HFZ.out.next bk).cell
                  rw [← HNZ.out] at x1
                  rw [hall,← HAW.out]
                  clear hall bk
                  go_wp2
                  go_roundw
                  case rel=>
                       try rw [HWJ.out]
                       try rw [hw2]
                       repeat apply Exists.intro
                       refine And.intro ?_ rfl
                       refine ⟨j + 1,HJN.out,rfl,?_,b11⟩
                       rw [HNEXT.out]
                       first | rfl | (rw [hwd];rfl) | simp
                  case measure=>first | exact round_less HWJ HJN.out | (have h:=HJN.out;simp [intOf];omega)
         · clear HNO
           as_aux_lemma=>
           go_upto_region 17 with fail
           have HSD : Below wr.heap.size wr wr.drew:=Ext.drew (Below.refl wr.heap.size wr)
           clear q0
           refine wp_region_held_drew (S:=fun w'=>Below wr.heap.size wr w') (by kernel_rfl) HSD (fun hS=>?_)
           clear HSD
           refine wpAnyH_take (i:=0) (v:=?_) rfl (by kernel_rfl) (by kernel_rfl) (by kernel_rfl) (fun _ _ _ h=>h) (Or.inl ⟨by rfl,?_⟩) hS ?_
           rotate_left
           · (intro w hSw;(try dsimp only at hSw);go_simp;(try with_reducible rfl))
           rotate_left
           simp only [Act.put,zq0,zq1,zq2,zq3,zq4,zq5]
           refine wpAnyH_take (i:=1) (v:=?_) rfl (by kernel_rfl) (by kernel_rfl) (by kernel_rfl) (fun _ _ _ h=>h) (Or.inl ⟨by rfl,?_⟩) hS ?_
           rotate_left
           · (intro w hSw;(try dsimp only at hSw);go_simp;(try with_reducible rfl))
           rotate_left
           simp only [Act.put,zq0,zq1,zq2,zq3,zq4,zq5]
           refine wpAnyH_take (i:=2) (v:=?_) rfl (by kernel_rfl) (by kernel_rfl) (by kernel_rfl) (fun _ _ _ h=>h) (Or.inl ⟨by rfl,?_⟩) hS ?_
           rotate_left
           · (intro w hSw;(try dsimp only at hSw);go_simp;(try with_reducible rfl))
           rotate_left
           simp only [Act.put,zq0,zq1,zq2,zq3,zq4,zq5]
           refine wpAnyH_take (i:=3) (v:=?_) rfl (by kernel_rfl) (by kernel_rfl) (by kernel_rfl) (fun _ _ _ h=>h) (Or.inl ⟨by rfl,?_⟩) hS ?_
           rotate_left
           · (intro w hSw;(try dsimp only at hSw);go_simp;(try with_reducible rfl))
           rotate_left
           simp only [Act.put,zq0,zq1,zq2,zq3,zq4,zq5]
           refine wpAnyH_take (i:=4) (v:=?_) rfl (by kernel_rfl) (by kernel_rfl) (by kernel_rfl) (fun _ _ _ h=>h) (Or.inl ⟨by rfl,?_⟩) hS ?_
           rotate_left
           · (intro w hSw;(try dsimp only at hSw);go_simp;(try with_reducible rfl))
           rotate_left
           simp only [Act.put,zq0,zq1,zq2,zq3,zq4,zq5]
           refine wpAnyH_take (i:=5) (v:=?_) rfl (by kernel_rfl) (by kernel_rfl) (by kernel_rfl) (fun _ _ _ h=>h) (Or.inr ⟨by rfl,?_⟩) hS ?_
           rotate_left
           · rfl
           rotate_left
           simp only [Act.put,zq0,zq1,zq2,zq3,zq4,zq5]
           refine wpAnyH_take (i:=6) (v:=?_) rfl (by kernel_rfl) (by kernel_rfl) (by kernel_rfl) (fun _ _ _ h=>h) (Or.inr ⟨by rfl,?_⟩) hS ?_
           rotate_left
           · rfl
           rotate_left
           simp only [Act.put,zq0,zq1,zq2,zq3,zq4,zq5]
           refine wpAnyH_take (i:=7) (v:=?_) rfl (by kernel_rfl) (by kernel_rfl) (by kernel_rfl) (fun _ _ _ h=>h) (Or.inr ⟨by rfl,?_⟩) hS ?_
           rotate_left
           · rfl
           rotate_left
           simp only [Act.put,zq0,zq1,zq2,zq3,zq4,zq5]
           refine wpAnyH_take (i:=8) (v:=?_) rfl (by kernel_rfl) (by kernel_rfl) (by kernel_rfl) (fun _ _ _ h=>h) (Or.inr ⟨by rfl,?_⟩) hS ?_
           rotate_left
           · rfl
           rotate_left
           simp only [Act.put,zq0,zq1,zq2,zq3,zq4,zq5]
           refine wpAnyH_take (i:=9) (v:=?_) rfl (by kernel_rfl) (by kernel_rfl) (by kernel_rfl) (fun _ _ _ h=>h) (Or.inr ⟨by rfl,?_⟩) hS ?_
           rotate_left
           · rfl
           rotate_left
           simp only [Act.put,zq0,zq1,zq2,zq3,zq4,zq5]
           refine wpAnyH_take (i:=10) (v:=?_) rfl (by kernel_rfl) (by kernel_rfl) (by kernel_rfl) (fun _ _ _ h=>h) (Or.inr ⟨by rfl,?_⟩) hS ?_
           rotate_left
           · rfl
           rotate_left
           simp only [Act.put,zq0,zq1,zq2,zq3,zq4,zq5]
           refine wpAnyH_take (i:=11) (v:=?_) rfl (by kernel_rfl) (by kernel_rfl) (by kernel_rfl) (fun _ _ _ h=>h) (Or.inr ⟨by rfl,?_⟩) hS ?_
           rotate_left
           · rfl
           rotate_left
           simp only [Act.put,zq0,zq1,zq2,zq3,zq4,zq5]
           refine wpAnyH_take (i:=12) (v:=?_) rfl (by kernel_rfl) (by kernel_rfl) (by kernel_rfl) (fun _ _ _ h=>h) (Or.inr ⟨by rfl,?_⟩) hS ?_
           rotate_left
           · rfl
           rotate_left
           simp only [Act.put,zq0,zq1,zq2,zq3,zq4,zq5]
           refine wpAnyH_take (i:=13) (v:=?_) rfl (by kernel_rfl) (by kernel_rfl) (by kernel_rfl) (fun _ _ _ h=>h) (Or.inr ⟨by rfl,?_⟩) hS ?_
           rotate_left
           · rfl
           rotate_left
           simp only [Act.put,zq0,zq1,zq2,zq3,zq4,zq5]
           refine wpAnyH_take (i:=14) (v:=?_) rfl (by kernel_rfl) (by kernel_rfl) (by kernel_rfl) (fun _ _ _ h=>h) (Or.inr ⟨by rfl,?_⟩) hS ?_
           rotate_left
           · rfl
           rotate_left
           simp only [Act.put,zq0,zq1,zq2,zq3,zq4,zq5]
           refine wpAnyH_take (i:=15) (v:=?_) rfl (by kernel_rfl) (by kernel_rfl) (by kernel_rfl) (fun _ _ _ h=>h) (Or.inr ⟨by rfl,?_⟩) hS ?_
           rotate_left
           · rfl
           rotate_left
           simp only [Act.put,zq0,zq1,zq2,zq3,zq4,zq5]
           refine wpAnyH_take (i:=16) (v:=?_) rfl (by kernel_rfl) (by kernel_rfl) (by kernel_rfl) (fun _ _ _ h=>h) (Or.inl ⟨by rfl,?_⟩) hS ?_
           rotate_left
           · (intro w hSw;(try dsimp only at hSw);go_simp;(try with_reducible rfl))
           rotate_left
           simp only [Act.put,zq0,zq1,zq2,zq3,zq4,zq5]
           refine wpAnyH_take (i:=17) (v:=?_) rfl (by kernel_rfl) (by kernel_rfl) (by kernel_rfl) (fun _ _ _ h=>h) (Or.inl ⟨by rfl,?_⟩) hS ?_
           rotate_left
           · (intro w hSw;(try dsimp only at hSw);go_simp;(try with_reducible rfl))
           rotate_left
           simp only [Act.put,zq0,zq1,zq2,zq3,zq4,zq5]
           refine wpAnyH_done (by kernel_rfl) ?_ _
           clear hS
           have D10:=Ext.drew (Below.refl wr.heap.size wr)
           have G10:=G9.next D10
           have b10:=Ext.trans b9 D10
           have t10:=Ext.trans t9 D10
           have HFD : Hid (∀ w',Below wr.drew.heap.size wr.drew w' → (w'.cell? ⟨bb,off + j * 8,none⟩ = some (.int .i64 (fN g)) ∧ w'.cell? ⟨bb,off + j * 8 + 1,none⟩ = some (.int .u8 (kI g)) ∧ w'.cell? ⟨bb,off + j * 8 + 2,none⟩ = some (.int .i64 (fA g)) ∧ w'.cell? ⟨bb,off + j * 8 + 3,none⟩ = some (.int .i64 (fM g)) ∧ w'.cell? ⟨bb,off + j * 8 + 4,none⟩ = some (.slice Ab (fD g).length cb) ∧ w'.cell? ⟨bb,off + j * 8 + 5,none⟩ = some (.slice As (fS g).length cs) ∧ w'.cell? ⟨bb,off + j * 8 + 6,none⟩ = some (.slice Aq (fQ g).length cq) ∧ w'.cell? ⟨bb,off + j * 8 + 7,none⟩ = some (.slice Ax (fB g).length cx))):=fun w' bw=>HFC.out w' (Ext.trans D10 bw)
           obtain ⟨p0,p1,p2,p3,p4,p5,p6,p7⟩:=HFC.out _ D10
           have HS3:=Lib.hid (HR2.out.below D10)
           have HQ3:=Lib.hid (HR3.out.below D10)
           clear D10 HFC HR2 HR3
           have hwd:=HWD.out
           generalize wr.drew = w10 at *
           have F0:=BoxOf.new w10 #[.int .i64 (fN g),.int .u8 (kI g),.int .i64 (fA g),.int .i64 (fM g),.slice Ab (fD g).length cb,.slice As (fS g).length cs,.slice Aq (fQ g).length cq,.slice Ax (fB g).length cx] 67
           have bA:=Ext.alloc (Below.refl w10.heap.size w10) (.cells #[.int .i64 (fN g),.int .u8 (kI g),.int .i64 (fA g),.int .i64 (fM g),.slice Ab (fD g).length cb,.slice As (fS g).length cs,.slice Aq (fQ g).length cq,.slice Ax (fB g).length cx] 67)
           have G11:=G10.next bA
           have t11:=Ext.trans t10 bA
           have b11:=Ext.trans b10 bA
           have HS4:=Lib.hid (HS3.out.below bA)
           have HQ4:=Lib.hid (HQ3.out.below bA)
           go_upto_region 21 with fail
           generalize w10.alloc (.cells #[.int .i64 (fN g),.int .u8 (kI g),.int .i64 (fA g),.int .i64 (fM g),.slice Ab (fD g).length cb,.slice As (fS g).length cs,.slice Aq (fQ g).length cq,.slice Ax (fB g).length cx] 67) = w11 at *
           obtain ⟨gf,hgf⟩ : ∃ z : Nat,z = w10.heap.size:=⟨_,rfl⟩
           rw [← hgf] at F0 ⊢
           clear p0 p1 p2 p3 p4 p5 p6 p7 HS3 HQ3 HFD bA G10 t10 b10 hgf
           have x11:=F0.cell
           have y11:=G11.cell
           by_cases hk4 : kI g = 4
           · have hq1 : ((fQ g).length : Int) = 1:=by have h8:=(oneB_iff.1 HONE.out).2.2.2.2.1;rw [if_pos hk4] at h8;exact h8
             have hq0 : 0 < (fQ g).length:=by omega
             obtain ⟨bq,oq,eq9,hc9⟩:=sq_at HQ4.out hq0
             subst eq9
             rw [Nat.add_zero] at hc9
             have hav : false = (decide ((fQ g)[0] < F) || decide (F = gq)):=by
              rw [HAV.out]
              unfold doneB
              rw [if_pos hk4,Bool.false_or,List.getElem?_eq_getElem hq0,HF2.out]
              rfl
             generalize (fQ g)[0] = q9 at *
             have e4 : (kI g == 4) = true:=by simpa using hk4
             clear hk4 HQ4
             by_cases h5 : q9 < F
             · rw [decide_eq_true h5,Bool.true_or] at hav
               have e5 : (q9 : Int) < (F : Int):=by omega
               clear h5
               first
                | exact absurd hav (by decide)
                | (clear hav
                   go_wp2
                   try rw [HWJ.out]
                   refine ⟨⟨j + 1,HJN.out,by first | rfl | go_num,?_,b11⟩,by simp [intOf];have:=HJN.out;omega⟩
                   rw [HNEXT.out]
                   first | rfl | (rw [hwd];rfl) | simp
                   )
             · have e5 : ¬ (q9 : Int) < (F : Int):=by omega
               rw [decide_eq_false h5,Bool.false_or] at hav
               clear h5
               by_cases h6 : F = gq
               · rw [decide_eq_true h6] at hav
                 have e6 : (F == gq) = true:=by simpa using h6
                 have e7 : ((F : Int) == (gq : Int)) = true:=by simp;omega
                 clear h6
                 first
                      | exact absurd hav (by decide)
                      | (clear hav
                         go_wp2
                         try rw [HWJ.out]
                         refine ⟨⟨j + 1,HJN.out,by first | rfl | go_num,?_,b11⟩,by simp [intOf];have:=HJN.out;omega⟩
                         rw [HNEXT.out]
                         first | rfl | (rw [hwd];rfl) | simp
                         )
               · rw [decide_eq_false h6] at hav
                 have e6 : (F == gq) = false:=by simpa using h6
                 have e7 : ((F : Int) == (gq : Int)) = false:=by simp;omega
                 clear h6
                 first
                      | exact absurd hav (by decide)
                      | (clear hav
                         go_wp2
                         try rw [HWJ.out]
                         refine ⟨⟨j + 1,HJN.out,by first | rfl | go_num,?_,b11⟩,by simp [intOf];have:=HJN.out;omega⟩
                         rw [HNEXT.out]
                         first | rfl | (rw [hwd];rfl) | simp
                         )
           · have e4 : (kI g == 4) = false:=by simpa using hk4
             by_cases hk6 : kI g = 6
             · have hav : false = (decide (j = 0) && decide (n = 0)):=by
                rw [HAV.out]
                unfold doneB
                rw [if_neg hk4,if_pos hk6,HLN.out]
               have e5 : (kI g == 6) = true:=by simpa using hk6
               clear hk4 hk6
               by_cases h5 : j = 0
               · rw [decide_eq_true h5,Bool.true_and] at hav
                 have e6 : ((j : Int) == 0) = true:=by simp;omega
                 by_cases h6 : n = 0
                 · rw [decide_eq_true h6] at hav
                   have e7 : ((n : Int) == 0) = true:=by simp;omega
                   clear h5 h6
                   first
                       | exact absurd hav (by decide)
                       | (clear hav
                          go_wp2
                          try rw [HWJ.out]
                          refine ⟨⟨j + 1,HJN.out,by first | rfl | go_num,?_,b11⟩,by simp [intOf];have:=HJN.out;omega⟩
                          rw [HNEXT.out]
                          first | rfl | (rw [hwd];rfl) | simp
                          )
                 · rw [decide_eq_false h6] at hav
                   have e7 : ((n : Int) == 0) = false:=by simp;omega
                   clear h5 h6
                   first
                       | exact absurd hav (by decide)
                       | (clear hav
                          go_wp2
                          try rw [HWJ.out]
                          refine ⟨⟨j + 1,HJN.out,by first | rfl | go_num,?_,b11⟩,by simp [intOf];have:=HJN.out;omega⟩
                          rw [HNEXT.out]
                          first | rfl | (rw [hwd];rfl) | simp
                          )
               · rw [decide_eq_false h5,Bool.false_and] at hav
                 have e6 : ((j : Int) == 0) = false:=by simp;omega
                 clear h5
                 first
                      | exact absurd hav (by decide)
                      | (clear hav
                         go_wp2
                         try rw [HWJ.out]
                         refine ⟨⟨j + 1,HJN.out,by first | rfl | go_num,?_,b11⟩,by simp [intOf];have:=HJN.out;omega⟩
                         rw [HNEXT.out]
                         first | rfl | (rw [hwd];rfl) | simp
                         )
             · have hav : false = blksDone ls (back && decide (kI g ≠ 3)) (fS g) (fQ g):=by
                rw [HAV.out]
                unfold doneB
                rw [if_neg hk4,if_neg hk6]
               obtain ⟨so,hso⟩ : ∃ z : Bool,z = (back && decide (kI g ≠ 3)):=⟨_,rfl⟩
               rw [← hso] at hav
               have HSO:=Lib.hid hso
               obtain ⟨nz,hnz⟩ : ∃ z : Nat,z = (fS g).length:=⟨_,rfl⟩
               have HNZ:=Lib.hid hnz
               have HMZ : Hid (nz ≤ maxLen):=by show nz ≤ maxLen;rw [hnz];exact byte_max HS4.out
               have HLE : Hid ((fS g).length ≤ (fQ g).length):=by
                have h8:=oneB_iff.1 HONE.out
                have h5:=h8.2.2.2.2.1
                rw [if_neg hk4] at h5
                have h3:=h8.2.2.1
                show _ ≤ _
                omega
               have HAW:=Lib.hid hav
               have e6 : (kI g == 6) = false:=by simpa using hk6
               obtain ⟨wq,hwq⟩ : ∃ z : World,z = w11:=⟨_,rfl⟩
               have b0 : Below wq.heap.size wq w11:=by rw [hwq];exact Below.refl _ _
               have HTZ : Hid (Below w.heap.size w wq):=by show Below _ _ _;rw [hwq];exact t11
               have HBZ : Hid (Below wp.heap.size wp wq):=by show Below _ _ _;rw [hwq];exact b11
               have HFZ : Hid (BoxOf wq gf #[.int .i64 (fN g),.int .u8 (kI g),.int .i64 (fA g),.int .i64 (fM g),.slice Ab (fD g).length cb,.slice As (fS g).length cs,.slice Aq (fQ g).length cq,.slice Ax (fB g).length cx] 67):=by show BoxOf _ _ _ _;rw [hwq];exact F0
               have HGZ : Hid (BoxOf wq (w.heap.size + 1) #[.int .u32 (ga : Int),.int .u32 (gq : Int),.int .i64 gt,.int .i64 gu,.slice L n lc] 60):=by show BoxOf _ _ _ _;rw [hwq];exact G11
               rw [← hwq] at HS4 HQ4
               rw [← hnz] at x11
               clear hwq hk4 hk6 hso hav hnz t11 b11 F0 G11 HAV HONE HR9 HT9
               go_wp2
               clear x11 y11
               go_loopw [19,20] (fun wv i wr=>∃ (k : Nat),k ≤ nz ∧ i = .int .i64 (k : Int) ∧ wv = .bool (blksDone ls so ((fS g).take k) (fQ g)) ∧ Below wq.heap.size wq wr) (fun _ i _=>nz - (intOf i).toNat)
               case atStart=>exact ⟨0,Nat.zero_le _,rfl,by rw [List.take_zero,blksDone_none],b0⟩
               case round=>
                as_aux_lemma=>
                obtain ⟨k,hk,rfl,rfl,bk⟩:=hrel
                clear b0
                by_cases hlt9 : k < nz
                · have hks : k < (fS g).length:=by have:=HNZ.out;omega
                  have hkq : k < (fQ g).length:=by have:=HLE.out;omega
                  have HNW:=Lib.hid (HF3.out so (fS g) (fQ g) k hks hkq)
                  obtain ⟨bs,os,hAs,ks⟩:=st_at (HS4.out.below bk) hks
                  obtain ⟨bq,oq,hAq,kq⟩:=sq_at (HQ4.out.below bk) hkq
                  obtain ⟨wv,hwv⟩ : ∃ z : Bool,z = blksDone ls so ((fS g).take k) (fQ g):=⟨_,rfl⟩
                  obtain ⟨st,hst⟩ : ∃ z : Nat,z = (fS g)[k].toNat:=⟨_,rfl⟩
                  rw [← hwv,← hst] at HNW
                  rw [← hwv]
                  rw [← hst] at ks
                  generalize (fQ g)[k] = sq at *
                  obtain ⟨sv,hsv⟩ : ∃ z : Bool,z = (decide (sq < F) || decide (gq ≤ sq)):=⟨_,rfl⟩
                  rw [← hsv] at HNW
                  have HSV:=Lib.hid hsv
                  subst hAs hAq
                  have HWK:=next_wrap HMZ.out hlt9
                  have HLK:=Lib.hid hlt9
                  have F1:=HFZ.out.next bk
                  have G1:=HGZ.out.next bk
                  have x1:=F1.cell
                  rw [← HNZ.out] at x1
                  have y1:=G1.cell
                  clear hwv hst hsv hks HF3
                  go_upto_region 26 with fail
                  go_cut [21] (fun s9 wx=>s9 = .bool sv ∧ Below wr.heap.size wr wx)
                  case first=>
                       have HSX : Hid (∀ w',Below wr.heap.size wr w' → (Below wr.heap.size wr w' ∧ (∀ o,w'.cell? ⟨gf,o,none⟩ = (#[.int .i64 (fN g),.int .u8 (kI g),.int .i64 (fA g),.int .i64 (fM g),.slice Ab (fD g).length cb,.slice (some ⟨bs,os,none⟩) nz cs,.slice (some ⟨bq,oq,none⟩) (fQ g).length cq,.slice Ax (fB g).length cx] : Array Value).toList[o]?) ∧ (∀ o,w'.cell? ⟨w.heap.size + 1,o,none⟩ = (#[.int .u32 (ga : Int),.int .u32 (gq : Int),.int .i64 gt,.int .i64 gu,.slice L n lc] : Array Value).toList[o]?) ∧ w'.cell? ⟨bq,oq + k,none⟩ = some (.int .u32 (sq : Int)))):=fun w' bb=>⟨bb,by have h1:=(F1.next bb).cell;rw [← HNZ.out] at h1;exact h1,(G1.next bb).cell,(bb.cell (p:=⟨bq,oq + k,none⟩) (block_lt_of_cell kq)).trans kq⟩
                       clear x1 y1 kq ks
                       have HSD:=HSX.out _ (Ext.drew (Below.refl wr.heap.size wr))
                       refine wp_region_held_drew (S:=fun w'=>Below wr.heap.size wr w' ∧ (∀ o,w'.cell? ⟨gf,o,none⟩ = (#[.int .i64 (fN g),.int .u8 (kI g),.int .i64 (fA g),.int .i64 (fM g),.slice Ab (fD g).length cb,.slice (some ⟨bs,os,none⟩) nz cs,.slice (some ⟨bq,oq,none⟩) (fQ g).length cq,.slice Ax (fB g).length cx] : Array Value).toList[o]?) ∧ (∀ o,w'.cell? ⟨w.heap.size + 1,o,none⟩ = (#[.int .u32 (ga : Int),.int .u32 (gq : Int),.int .i64 gt,.int .i64 gu,.slice L n lc] : Array Value).toList[o]?) ∧ w'.cell? ⟨bq,oq + k,none⟩ = some (.int .u32 (sq : Int))) (by kernel_rfl) HSD (fun hS=>?_)
                       clear HSD
                       by_cases h5 : sq < F
                       · have h6 : sv = true:=by rw [HSV.out,decide_eq_true h5];rfl
                         subst h6
                         refine wpAnyH_take (i:=0) (v:=?_) rfl (by kernel_rfl) (by kernel_rfl) (by kernel_rfl) (fun _ _ _ h=>h) (Or.inl ⟨by rfl,?_⟩) hS ?_
                         rotate_left
                         · (intro w hSw;(try dsimp only at hSw);go_simp;(try with_reducible rfl))
                         rotate_left
                         simp only [Act.put,zq0,zq1,zq2,zq3,zq4,zq5]
                         refine wpAnyH_take (i:=1) (v:=?_) rfl (by kernel_rfl) (by kernel_rfl) (by kernel_rfl) (fun _ _ _ h=>h) (Or.inl ⟨by rfl,?_⟩) hS ?_
                         rotate_left
                         · (intro w hSw;(try dsimp only at hSw);go_simp;(try with_reducible rfl))
                         rotate_left
                         simp only [Act.put,zq0,zq1,zq2,zq3,zq4,zq5]
                         refine wpAnyH_take (i:=2) (v:=?_) rfl (by kernel_rfl) (by kernel_rfl) (by kernel_rfl) (fun _ _ _ h=>h) (Or.inl ⟨by rfl,?_⟩) hS ?_
                         rotate_left
                         · (intro w hSw;(try dsimp only at hSw);go_simp;(try with_reducible rfl))
                         rotate_left
                         simp only [Act.put,zq0,zq1,zq2,zq3,zq4,zq5]
                         refine wpAnyH_take (i:=3) (v:=?_) rfl (by kernel_rfl) (by kernel_rfl) (by kernel_rfl) (fun _ _ _ h=>h) (Or.inl ⟨by rfl,?_⟩) hS ?_
                         rotate_left
                         · (intro w hSw;(try dsimp only at hSw);go_simp;(try with_reducible rfl))
                         rotate_left
                         simp only [Act.put,zq0,zq1,zq2,zq3,zq4,zq5]
                         refine wpAnyH_take (i:=4) (v:=?_) rfl (by kernel_rfl) (by kernel_rfl) (by kernel_rfl) (fun _ _ _ h=>h) (Or.inl ⟨by rfl,?_⟩) hS ?_
                         rotate_left
                         · (intro w hSw;(try dsimp only at hSw);go_simp;(try with_reducible rfl))
                         rotate_left
                         simp only [Act.put,zq0,zq1,zq2,zq3,zq4,zq5]
                         refine wpAnyH_take (i:=5) (v:=?_) rfl (by kernel_rfl) (by kernel_rfl) (by kernel_rfl) (fun _ _ _ h=>h) (Or.inl ⟨by rfl,?_⟩) hS ?_
                         rotate_left
                         · (intro w hSw;(try dsimp only at hSw);go_simp;(try with_reducible rfl))
                         rotate_left
                         simp only [Act.put,zq0,zq1,zq2,zq3,zq4,zq5]
                         refine wpAnyH_take (i:=6) (v:=?_) rfl (by kernel_rfl) (by kernel_rfl) (by kernel_rfl) (fun _ _ _ h=>h) (Or.inl ⟨by rfl,?_⟩) hS ?_
                         rotate_left
                         · (intro w hSw;(try dsimp only at hSw);go_simp;(try with_reducible rfl))
                         rotate_left
                         simp only [Act.put,zq0,zq1,zq2,zq3,zq4,zq5]
                         refine wpAnyH_take (i:=7) (v:=?_) rfl (by kernel_rfl) (by kernel_rfl) (by kernel_rfl) (fun _ _ _ h=>h) (Or.inl ⟨by rfl,?_⟩) hS ?_
                         rotate_left
                         · (intro w hSw;(try dsimp only at hSw);go_simp;(try with_reducible rfl))
                         rotate_left
                         simp only [Act.put,zq0,zq1,zq2,zq3,zq4,zq5]
                         refine wpAnyH_take (i:=8) (v:=?_) rfl (by kernel_rfl) (by kernel_rfl) (by kernel_rfl) (fun _ _ _ h=>h) (Or.inr ⟨by rfl,?_⟩) hS ?_
                         rotate_left
                         · rfl
                         rotate_left
                         simp only [Act.put,zq0,zq1,zq2,zq3,zq4,zq5]
                         refine wpAnyH_take (i:=9) (v:=?_) rfl (by kernel_rfl) (by kernel_rfl) (by kernel_rfl) (fun _ _ _ h=>h) (Or.inr ⟨by rfl,?_⟩) hS ?_
                         rotate_left
                         · rfl
                         rotate_left
                         simp only [Act.put,zq0,zq1,zq2,zq3,zq4,zq5]
                         refine wpAnyH_take (i:=10) (v:=?_) rfl (by kernel_rfl) (by kernel_rfl) (by kernel_rfl) (fun _ _ _ h=>h) (Or.inr ⟨by rfl,?_⟩) hS ?_
                         rotate_left
                         · rfl
                         rotate_left
                         simp only [Act.put,zq0,zq1,zq2,zq3,zq4,zq5]
                         refine wpAnyH_take (i:=11) (v:=?_) rfl (by kernel_rfl) (by kernel_rfl) (by kernel_rfl) (fun _ _ _ h=>h) (Or.inr ⟨by rfl,?_⟩) hS ?_
                         rotate_left
                         · rfl
                         rotate_left
                         simp only [Act.put,zq0,zq1,zq2,zq3,zq4,zq5]
                         refine wpAnyH_take (i:=12) (v:=?_) rfl (by kernel_rfl) (by kernel_rfl) (by kernel_rfl) (fun _ _ _ h=>h) (Or.inr ⟨by rfl,?_⟩) hS ?_
                         rotate_left
                         · rfl
                         rotate_left
                         simp only [Act.put,zq0,zq1,zq2,zq3,zq4,zq5]
                         refine wpAnyH_take (i:=13) (v:=?_) rfl (by kernel_rfl) (by kernel_rfl) (by kernel_rfl) (fun _ _ _ h=>h) (Or.inr ⟨by rfl,?_⟩) hS ?_
                         rotate_left
                         · rfl
                         rotate_left
                         simp only [Act.put,zq0,zq1,zq2,zq3,zq4,zq5]
                         refine wpAnyH_take (i:=14) (v:=?_) rfl (by kernel_rfl) (by kernel_rfl) (by kernel_rfl) (fun _ _ _ h=>h) (Or.inr ⟨by rfl,?_⟩) hS ?_
                         rotate_left
                         · rfl
                         rotate_left
                         simp only [Act.put,zq0,zq1,zq2,zq3,zq4,zq5]
                         refine wpAnyH_take (i:=15) (v:=?_) rfl (by kernel_rfl) (by kernel_rfl) (by kernel_rfl) (fun _ _ _ h=>h) (Or.inr ⟨by rfl,?_⟩) hS ?_
                         rotate_left
                         · rfl
                         rotate_left
                         simp only [Act.put,zq0,zq1,zq2,zq3,zq4,zq5]
                         refine wpAnyH_take (i:=16) (v:=?_) rfl (by kernel_rfl) (by kernel_rfl) (by kernel_rfl) (fun _ _ _ h=>h) (Or.inl ⟨by rfl,?_⟩) hS ?_
                         rotate_left
                         · (intro w hSw;(try dsimp only at hSw);go_simp;(try with_reducible rfl))
                         rotate_left
                         simp only [Act.put,zq0,zq1,zq2,zq3,zq4,zq5]
                         refine wpAnyH_take (i:=17) (v:=?_) rfl (by kernel_rfl) (by kernel_rfl) (by kernel_rfl) (fun _ _ _ h=>h) (Or.inl ⟨by rfl,?_⟩) hS ?_
                         rotate_left
                         · (intro w hSw;(try dsimp only at hSw);go_simp;(try with_reducible rfl))
                         rotate_left
                         simp only [Act.put,zq0,zq1,zq2,zq3,zq4,zq5]
                         refine wpAnyH_done (by kernel_rfl) ?_ _
                         have b1:=hS.1
                         clear hS
                         go_wp2_with fail
                         go_meet
                         exact ⟨rfl,b1⟩
                       · by_cases h6 : gq ≤ sq
                         · have h7 : sv = true:=by rw [HSV.out,decide_eq_false h5,decide_eq_true h6];rfl
                           subst h7
                           refine wpAnyH_take (i:=0) (v:=?_) rfl (by kernel_rfl) (by kernel_rfl) (by kernel_rfl) (fun _ _ _ h=>h) (Or.inl ⟨by rfl,?_⟩) hS ?_
                           rotate_left
                           · (intro w hSw;(try dsimp only at hSw);go_simp;(try with_reducible rfl))
                           rotate_left
                           simp only [Act.put,zq0,zq1,zq2,zq3,zq4,zq5]
                           refine wpAnyH_take (i:=1) (v:=?_) rfl (by kernel_rfl) (by kernel_rfl) (by kernel_rfl) (fun _ _ _ h=>h) (Or.inl ⟨by rfl,?_⟩) hS ?_
                           rotate_left
                           · (intro w hSw;(try dsimp only at hSw);go_simp;(try with_reducible rfl))
                           rotate_left
                           simp only [Act.put,zq0,zq1,zq2,zq3,zq4,zq5]
                           refine wpAnyH_take (i:=2) (v:=?_) rfl (by kernel_rfl) (by kernel_rfl) (by kernel_rfl) (fun _ _ _ h=>h) (Or.inl ⟨by rfl,?_⟩) hS ?_
                           rotate_left
                           · (intro w hSw;(try dsimp only at hSw);go_simp;(try with_reducible rfl))
                           rotate_left
                           simp only [Act.put,zq0,zq1,zq2,zq3,zq4,zq5]
                           refine wpAnyH_take (i:=3) (v:=?_) rfl (by kernel_rfl) (by kernel_rfl) (by kernel_rfl) (fun _ _ _ h=>h) (Or.inl ⟨by rfl,?_⟩) hS ?_
                           rotate_left
                           · (intro w hSw;(try dsimp only at hSw);go_simp;(try with_reducible rfl))
                           rotate_left
                           simp only [Act.put,zq0,zq1,zq2,zq3,zq4,zq5]
                           refine wpAnyH_take (i:=4) (v:=?_) rfl (by kernel_rfl) (by kernel_rfl) (by kernel_rfl) (fun _ _ _ h=>h) (Or.inl ⟨by rfl,?_⟩) hS ?_
                           rotate_left
                           · (intro w hSw;(try dsimp only at hSw);go_simp;(try with_reducible rfl))
                           rotate_left
                           simp only [Act.put,zq0,zq1,zq2,zq3,zq4,zq5]
                           refine wpAnyH_take (i:=5) (v:=?_) rfl (by kernel_rfl) (by kernel_rfl) (by kernel_rfl) (fun _ _ _ h=>h) (Or.inl ⟨by rfl,?_⟩) hS ?_
                           rotate_left
                           · (intro w hSw;(try dsimp only at hSw);go_simp;(try with_reducible rfl))
                           rotate_left
                           simp only [Act.put,zq0,zq1,zq2,zq3,zq4,zq5]
                           refine wpAnyH_take (i:=6) (v:=?_) rfl (by kernel_rfl) (by kernel_rfl) (by kernel_rfl) (fun _ _ _ h=>h) (Or.inl ⟨by rfl,?_⟩) hS ?_
                           rotate_left
                           · (intro w hSw;(try dsimp only at hSw);go_simp;(try with_reducible rfl))
                           rotate_left
                           simp only [Act.put,zq0,zq1,zq2,zq3,zq4,zq5]
                           refine wpAnyH_take (i:=7) (v:=?_) rfl (by kernel_rfl) (by kernel_rfl) (by kernel_rfl) (fun _ _ _ h=>h) (Or.inl ⟨by rfl,?_⟩) hS ?_
                           rotate_left
                           · (intro w hSw;(try dsimp only at hSw);go_simp;(try with_reducible rfl))
                           rotate_left
                           simp only [Act.put,zq0,zq1,zq2,zq3,zq4,zq5]
                           refine wpAnyH_take (i:=8) (v:=?_) rfl (by kernel_rfl) (by kernel_rfl) (by kernel_rfl) (fun _ _ _ h=>h) (Or.inl ⟨by rfl,?_⟩) hS ?_
                           rotate_left
                           · (intro w hSw;(try dsimp only at hSw);go_simp;(try with_reducible rfl))
                           rotate_left
                           simp only [Act.put,zq0,zq1,zq2,zq3,zq4,zq5]
                           refine wpAnyH_take (i:=9) (v:=?_) rfl (by kernel_rfl) (by kernel_rfl) (by kernel_rfl) (fun _ _ _ h=>h) (Or.inl ⟨by rfl,?_⟩) hS ?_
                           rotate_left
                           · (intro w hSw;(try dsimp only at hSw);go_simp;(try with_reducible rfl))
                           rotate_left
                           simp only [Act.put,zq0,zq1,zq2,zq3,zq4,zq5]
                           refine wpAnyH_take (i:=10) (v:=?_) rfl (by kernel_rfl) (by kernel_rfl) (by kernel_rfl) (fun _ _ _ h=>h) (Or.inl ⟨by rfl,?_⟩) hS ?_
                           rotate_left
                           · (intro w hSw;(try dsimp only at hSw);go_simp;(try with_reducible rfl))
                           rotate_left
                           simp only [Act.put,zq0,zq1,zq2,zq3,zq4,zq5]
                           refine wpAnyH_take (i:=11) (v:=?_) rfl (by kernel_rfl) (by kernel_rfl) (by kernel_rfl) (fun _ _ _ h=>h) (Or.inl ⟨by rfl,?_⟩) hS ?_
                           rotate_left
                           · (intro w hSw;(try dsimp only at hSw);go_simp;(try with_reducible rfl))
                           rotate_left
                           simp only [Act.put,zq0,zq1,zq2,zq3,zq4,zq5]
                           refine wpAnyH_take (i:=12) (v:=?_) rfl (by kernel_rfl) (by kernel_rfl) (by kernel_rfl) (fun _ _ _ h=>h) (Or.inl ⟨by rfl,?_⟩) hS ?_
                           rotate_left
                           · (intro w hSw;(try dsimp only at hSw);go_simp;(try with_reducible rfl))
                           rotate_left
                           simp only [Act.put,zq0,zq1,zq2,zq3,zq4,zq5]
                           refine wpAnyH_take (i:=13) (v:=?_) rfl (by kernel_rfl) (by kernel_rfl) (by kernel_rfl) (fun _ _ _ h=>h) (Or.inl ⟨by rfl,?_⟩) hS ?_
                           rotate_left
                           · (intro w hSw;(try dsimp only at hSw);go_simp;(try with_reducible rfl))
                           rotate_left
                           simp only [Act.put,zq0,zq1,zq2,zq3,zq4,zq5]
                           refine wpAnyH_take (i:=14) (v:=?_) rfl (by kernel_rfl) (by kernel_rfl) (by kernel_rfl) (fun _ _ _ h=>h) (Or.inl ⟨by rfl,?_⟩) hS ?_
                           rotate_left
                           · (intro w hSw;(try dsimp only at hSw);go_simp;(try with_reducible rfl))
                           rotate_left
                           simp only [Act.put,zq0,zq1,zq2,zq3,zq4,zq5]
                           refine wpAnyH_take (i:=15) (v:=?_) rfl (by kernel_rfl) (by kernel_rfl) (by kernel_rfl) (fun _ _ _ h=>h) (Or.inl ⟨by rfl,?_⟩) hS ?_
                           rotate_left
                           · (intro w hSw;(try dsimp only at hSw);go_simp;(try with_reducible rfl))
                           rotate_left
                           simp only [Act.put,zq0,zq1,zq2,zq3,zq4,zq5]
                           refine wpAnyH_take (i:=16) (v:=?_) rfl (by kernel_rfl) (by kernel_rfl) (by kernel_rfl) (fun _ _ _ h=>h) (Or.inl ⟨by rfl,?_⟩) hS ?_
                           rotate_left
                           · (intro w hSw;(try dsimp only at hSw);go_simp;(try with_reducible rfl))
                           rotate_left
                           simp only [Act.put,zq0,zq1,zq2,zq3,zq4,zq5]
                           refine wpAnyH_take (i:=17) (v:=?_) rfl (by kernel_rfl) (by kernel_rfl) (by kernel_rfl) (fun _ _ _ h=>h) (Or.inl ⟨by rfl,?_⟩) hS ?_
                           rotate_left
                           · (intro w hSw;(try dsimp only at hSw);go_simp;(try with_reducible rfl))
                           rotate_left
                           simp only [Act.put,zq0,zq1,zq2,zq3,zq4,zq5]
                           refine wpAnyH_done (by kernel_rfl) ?_ _
                           have b1:=hS.1
                           clear hS
                           go_wp2_with fail
                           go_meet
                           exact ⟨rfl,b1⟩
                         · have h7 : sv = false:=by rw [HSV.out,decide_eq_false h5,decide_eq_false h6];rfl
                           subst h7
                           refine wpAnyH_take (i:=0) (v:=?_) rfl (by kernel_rfl) (by kernel_rfl) (by kernel_rfl) (fun _ _ _ h=>h) (Or.inl ⟨by rfl,?_⟩) hS ?_
                           rotate_left
                           · (intro w hSw;(try dsimp only at hSw);go_simp;(try with_reducible rfl))
                           rotate_left
                           simp only [Act.put,zq0,zq1,zq2,zq3,zq4,zq5]
                           refine wpAnyH_take (i:=1) (v:=?_) rfl (by kernel_rfl) (by kernel_rfl) (by kernel_rfl) (fun _ _ _ h=>h) (Or.inl ⟨by rfl,?_⟩) hS ?_
                           rotate_left
                           · (intro w hSw;(try dsimp only at hSw);go_simp;(try with_reducible rfl))
                           rotate_left
                           simp only [Act.put,zq0,zq1,zq2,zq3,zq4,zq5]
                           refine wpAnyH_take (i:=2) (v:=?_) rfl (by kernel_rfl) (by kernel_rfl) (by kernel_rfl) (fun _ _ _ h=>h) (Or.inl ⟨by rfl,?_⟩) hS ?_
                           rotate_left
                           · (intro w hSw;(try dsimp only at hSw);go_simp;(try with_reducible rfl))
                           rotate_left
                           simp only [Act.put,zq0,zq1,zq2,zq3,zq4,zq5]
                           refine wpAnyH_take (i:=3) (v:=?_) rfl (by kernel_rfl) (by kernel_rfl) (by kernel_rfl) (fun _ _ _ h=>h) (Or.inl ⟨by rfl,?_⟩) hS ?_
                           rotate_left
                           · (intro w hSw;(try dsimp only at hSw);go_simp;(try with_reducible rfl))
                           rotate_left
                           simp only [Act.put,zq0,zq1,zq2,zq3,zq4,zq5]
                           refine wpAnyH_take (i:=4) (v:=?_) rfl (by kernel_rfl) (by kernel_rfl) (by kernel_rfl) (fun _ _ _ h=>h) (Or.inl ⟨by rfl,?_⟩) hS ?_
                           rotate_left
                           · (intro w hSw;(try dsimp only at hSw);go_simp;(try with_reducible rfl))
                           rotate_left
                           simp only [Act.put,zq0,zq1,zq2,zq3,zq4,zq5]
                           refine wpAnyH_take (i:=5) (v:=?_) rfl (by kernel_rfl) (by kernel_rfl) (by kernel_rfl) (fun _ _ _ h=>h) (Or.inl ⟨by rfl,?_⟩) hS ?_
                           rotate_left
                           · (intro w hSw;(try dsimp only at hSw);go_simp;(try with_reducible rfl))
                           rotate_left
                           simp only [Act.put,zq0,zq1,zq2,zq3,zq4,zq5]
                           refine wpAnyH_take (i:=6) (v:=?_) rfl (by kernel_rfl) (by kernel_rfl) (by kernel_rfl) (fun _ _ _ h=>h) (Or.inl ⟨by rfl,?_⟩) hS ?_
                           rotate_left
                           · (intro w hSw;(try dsimp only at hSw);go_simp;(try with_reducible rfl))
                           rotate_left
                           simp only [Act.put,zq0,zq1,zq2,zq3,zq4,zq5]
                           refine wpAnyH_take (i:=7) (v:=?_) rfl (by kernel_rfl) (by kernel_rfl) (by kernel_rfl) (fun _ _ _ h=>h) (Or.inl ⟨by rfl,?_⟩) hS ?_
                           rotate_left
                           · (intro w hSw;(try dsimp only at hSw);go_simp;(try with_reducible rfl))
                           rotate_left
                           simp only [Act.put,zq0,zq1,zq2,zq3,zq4,zq5]
                           refine wpAnyH_take (i:=8) (v:=?_) rfl (by kernel_rfl) (by kernel_rfl) (by kernel_rfl) (fun _ _ _ h=>h) (Or.inl ⟨by rfl,?_⟩) hS ?_
                           rotate_left
                           · (intro w hSw;(try dsimp only at hSw);go_simp;(try with_reducible rfl))
                           rotate_left
                           simp only [Act.put,zq0,zq1,zq2,zq3,zq4,zq5]
                           refine wpAnyH_take (i:=9) (v:=?_) rfl (by kernel_rfl) (by kernel_rfl) (by kernel_rfl) (fun _ _ _ h=>h) (Or.inl ⟨by rfl,?_⟩) hS ?_
                           rotate_left
                           · (intro w hSw;(try dsimp only at hSw);go_simp;(try with_reducible rfl))
                           rotate_left
                           simp only [Act.put,zq0,zq1,zq2,zq3,zq4,zq5]
                           refine wpAnyH_take (i:=10) (v:=?_) rfl (by kernel_rfl) (by kernel_rfl) (by kernel_rfl) (fun _ _ _ h=>h) (Or.inl ⟨by rfl,?_⟩) hS ?_
                           rotate_left
                           · (intro w hSw;(try dsimp only at hSw);go_simp;(try with_reducible rfl))
                           rotate_left
                           simp only [Act.put,zq0,zq1,zq2,zq3,zq4,zq5]
                           refine wpAnyH_take (i:=11) (v:=?_) rfl (by kernel_rfl) (by kernel_rfl) (by kernel_rfl) (fun _ _ _ h=>h) (Or.inl ⟨by rfl,?_⟩) hS ?_
                           rotate_left
                           · (intro w hSw;(try dsimp only at hSw);go_simp;(try with_reducible rfl))
                           rotate_left
                           simp only [Act.put,zq0,zq1,zq2,zq3,zq4,zq5]
                           refine wpAnyH_take (i:=12) (v:=?_) rfl (by kernel_rfl) (by kernel_rfl) (by kernel_rfl) (fun _ _ _ h=>h) (Or.inl ⟨by rfl,?_⟩) hS ?_
                           rotate_left
                           · (intro w hSw;(try dsimp only at hSw);go_simp;(try with_reducible rfl))
                           rotate_left
                           simp only [Act.put,zq0,zq1,zq2,zq3,zq4,zq5]
                           refine wpAnyH_take (i:=13) (v:=?_) rfl (by kernel_rfl) (by kernel_rfl) (by kernel_rfl) (fun _ _ _ h=>h) (Or.inl ⟨by rfl,?_⟩) hS ?_
                           rotate_left
                           · (intro w hSw;(try dsimp only at hSw);go_simp;(try with_reducible rfl))
                           rotate_left
                           simp only [Act.put,zq0,zq1,zq2,zq3,zq4,zq5]
                           refine wpAnyH_take (i:=14) (v:=?_) rfl (by kernel_rfl) (by kernel_rfl) (by kernel_rfl) (fun _ _ _ h=>h) (Or.inl ⟨by rfl,?_⟩) hS ?_
                           rotate_left
                           · (intro w hSw;(try dsimp only at hSw);go_simp;(try with_reducible rfl))
                           rotate_left
                           simp only [Act.put,zq0,zq1,zq2,zq3,zq4,zq5]
                           refine wpAnyH_take (i:=15) (v:=?_) rfl (by kernel_rfl) (by kernel_rfl) (by kernel_rfl) (fun _ _ _ h=>h) (Or.inl ⟨by rfl,?_⟩) hS ?_
                           rotate_left
                           · (intro w hSw;(try dsimp only at hSw);go_simp;(try with_reducible rfl))
                           rotate_left
                           simp only [Act.put,zq0,zq1,zq2,zq3,zq4,zq5]
                           refine wpAnyH_take (i:=16) (v:=?_) rfl (by kernel_rfl) (by kernel_rfl) (by kernel_rfl) (fun _ _ _ h=>h) (Or.inl ⟨by rfl,?_⟩) hS ?_
                           rotate_left
                           · (intro w hSw;(try dsimp only at hSw);go_simp;(try with_reducible rfl))
                           rotate_left
                           simp only [Act.put,zq0,zq1,zq2,zq3,zq4,zq5]
                           refine wpAnyH_take (i:=17) (v:=?_) rfl (by kernel_rfl) (by kernel_rfl) (by kernel_rfl) (fun _ _ _ h=>h) (Or.inl ⟨by rfl,?_⟩) hS ?_
                           rotate_left
                           · (intro w hSw;(try dsimp only at hSw);go_simp;(try with_reducible rfl))
                           rotate_left
                           simp only [Act.put,zq0,zq1,zq2,zq3,zq4,zq5]
                           refine wpAnyH_done (by kernel_rfl) ?_ _
                           have b1:=hS.1
                           clear hS
                           go_wp2_with fail
                           go_meet
                           exact ⟨rfl,b1⟩
                  case rest=>
                  obtain ⟨rfl,bc⟩:=hcut
                  have F2:=F1.next bc
                  have x2:=F2.cell
                  rw [← HNZ.out] at x2
                  have k2:=(bc.cell (p:=⟨bs,os + k,none⟩) (block_lt_of_cell ks)).trans ks
                  have bz:=Ext.trans bk bc
                  clear x1 y1 ks kq F1 G1 F2 bk bc HSV
                  cases wv with
                  | false=>
                    have hw : blksDone ls so ((fS g).take (k + 1)) (fQ g) = false:=HNW.out
                    go_wp2
                    refine ⟨⟨k + 1,HLK.out,by first | exact round_same HWK | go_num,by rw [hw],bz⟩,by first | exact round_less HWK HLK.out | (have h:=HLK.out;simp [intOf];omega)⟩
                  | true=>
                  by_cases h3 : st = 3
                  · have hw : blksDone ls so ((fS g).take (k + 1)) (fQ g) = true:=by rw [HNW.out,decide_eq_true h3];rfl
                    have e3 : ((st : Int) == 3) = true:=by simp;omega
                    clear h3
                    go_wp2
                    refine ⟨⟨k + 1,HLK.out,by first | exact round_same HWK | go_num,by rw [hw],bz⟩,by first | exact round_less HWK HLK.out | (have h:=HLK.out;simp [intOf];omega)⟩
                  have e3 : ((st : Int) == 3) = false:=by simp;omega
                  have e3' : (st == 3) = false:=by simpa using h3
                  by_cases h2 : st = 2
                  rotate_left
                  · have hw : blksDone ls so ((fS g).take (k + 1)) (fQ g) = false:=by rw [HNW.out,decide_eq_false h3,decide_eq_false h2];rfl
                    have e2 : ((st : Int) == 2) = false:=by simp;omega
                    have e2' : (st == 2) = false:=by simpa using h2
                    clear h3 h2
                    go_wp2
                    refine ⟨⟨k + 1,HLK.out,by first | exact round_same HWK | go_num,by rw [hw],bz⟩,by first | exact round_less HWK HLK.out | (have h:=HLK.out;simp [intOf];omega)⟩
                  have e2 : ((st : Int) == 2) = true:=by simp;omega
                  have e2' : (st == 2) = true:=by simpa using h2
                  have hw2 : Hid (blksDone ls so ((fS g).take (k + 1)) (fQ g) = (so || sv)):=by show _ = _;rw [HNW.out,decide_eq_false h3,decide_eq_true h2];rfl
                  clear h3 h2
                  cases sv with
                  | true=>
                    have hw : blksDone ls so ((fS g).take (k + 1)) (fQ g) = true:=by rw [hw2.out,Bool.or_true]
                    go_wp2
                    refine ⟨⟨k + 1,HLK.out,by first | exact round_same HWK | go_num,by rw [hw],bz⟩,by first | exact round_less HWK HLK.out | (have h:=HLK.out;simp [intOf];omega)⟩
                  | false=>
                  cases back with
                  | false=>
                    have hw : blksDone ls so ((fS g).take (k + 1)) (fQ g) = false:=by rw [hw2.out,HSO.out];rfl
                    go_wp2
                    refine ⟨⟨k + 1,HLK.out,by first | exact round_same HWK | go_num,by rw [hw],bz⟩,by first | exact round_less HWK HLK.out | (have h:=HLK.out;simp [intOf];omega)⟩
                  | true=>
                  rcases Bool.eq_false_or_eq_true (kI g != 3) with e9 | e9
                  · have hw : blksDone ls so ((fS g).take (k + 1)) (fQ g) = true:=by rw [hw2.out,HSO.out,Bool.true_and,Bool.or_false];exact decide_eq_true (by simpa using e9)
                    go_wp2
                    refine ⟨⟨k + 1,HLK.out,by first | exact round_same HWK | go_num,by rw [hw],bz⟩,by first | exact round_less HWK HLK.out | (have h:=HLK.out;simp [intOf];omega)⟩
                  · have hw : blksDone ls so ((fS g).take (k + 1)) (fQ g) = false:=by rw [hw2.out,HSO.out,Bool.true_and,Bool.or_false];exact decide_eq_false (by simpa using e9)
                    go_wp2
                    refine ⟨⟨k + 1,HLK.out,by first | exact round_same HWK | go_num,by rw [hw],bz⟩,by first | exact round_less HWK HLK.out | (have h:=HLK.out;simp [intOf];omega)⟩
                · have hall : (fS g).take k = fS g:=List.take_of_length_le (by have:=HNZ.out;omega)
                  have b11:=Ext.trans HBZ.out bk
                  have x1:=(HFZ.out.next bk).cell
                  rw [← HNZ.out] at x1
                  rw [hall,← HAW.out]
                  clear hall bk
                  go_wp2
                  go_roundw
                  case rel=>
                       try rw [HWJ.out]
                       try rw [hw2]
                       repeat apply Exists.intro
                       refine And.intro ?_ rfl
                       refine ⟨j + 1,HJN.out,rfl,?_,b11⟩
                       rw [HNEXT.out]
                       first | rfl | (rw [hwd];rfl) | simp
                  case measure=>first | exact round_less HWJ HJN.out | (have h:=HJN.out;simp [intOf];omega)
     · have hj' : N = j:=by omega
       subst hj'
       have hfull : dnN (doneB ls back false) fs N = yl:=by
        have h8:=HNL.out
        have h9 : dnN (doneB ls back false) fs N = ((partF (doneB ls back false) fs true).1).length:=by rw [← h8];exact dnN_full
        rw [h9,← HYS.out]
        exact HYN.out.symm
       rw [hfull]
       clear hfull
       go_wp2
       go_ret
       exact ⟨rfl,t9⟩
end Go.Proofs.Ythapabjlhooglaa
namespace Go.Proofs.Ythapabjlhooglaa
open Go Go.RowKit
set_option linter.unusedSimpArgs false
set_option linter.unusedVariables false
set_option linter.unusedSectionVars false
theorem cfg_deep {w : World} {S : Nat → Prop} {cs : List Value} {x : (Ty.st (.prod .u32 (.prod .int (.prod .int (.prod .int (.prod .int (.prod .int .unit))))))).T} (h : RdIn w S (Ty.st (.prod .u32 (.prod .int (.prod .int (.prod .int (.prod .int (.prod .int .unit))))))) x cs) : ∃ y : Cfg,Value.agg cs.toArray = y.val:=by
 obtain ⟨id,m,c,r,l,h',u⟩:=x
 obtain ⟨c0,d0,rfl,r0,h⟩:=rdin_prod.1 (rdin_st.1 h)
 obtain ⟨c1,d1,rfl,r1,h⟩:=rdin_prod.1 h
 obtain ⟨c2,d2,rfl,r2,h⟩:=rdin_prod.1 h
 obtain ⟨c3,d3,rfl,r3,h⟩:=rdin_prod.1 h
 obtain ⟨c4,d4,rfl,r4,h⟩:=rdin_prod.1 h
 obtain ⟨c5,d5,rfl,r5,h⟩:=rdin_prod.1 h
 obtain rfl:=rdin_unit.1 h
 obtain ⟨rfl,_⟩:=rdin_u32.1 r0
 obtain ⟨rfl,_⟩:=rdin_int.1 r1
 obtain ⟨rfl,_⟩:=rdin_int.1 r2
 obtain ⟨rfl,_⟩:=rdin_int.1 r3
 obtain ⟨rfl,_⟩:=rdin_int.1 r4
 obtain ⟨rfl,_⟩:=rdin_int.1 r5
 exact ⟨⟨id,m,c,r,l,h'⟩,rfl⟩
theorem sl_deep {w : World} {S : Nat → Prop} {e : Ty} {xs : List e.T} {v : Value} (h : RdIn w S (.sl e) xs [v]) : ∃ A c,v = .slice A xs.length c:=by
 obtain ⟨A,c,e,_⟩:=rdin_sl.1 h
 exact ⟨A,c,(List.cons.inj e).1⟩
theorem bool_deep {w : World} {S : Nat → Prop} {v : Value} {x : Ty.bool.T} (h : RdIn w S .bool x [v]) : ∃ b : Bool,v = .bool b:=by
 have e:=rdin_bool.1 h
 exact ⟨x,(List.cons.inj e).1⟩
end Go.Proofs.Ythapabjlhooglaa
namespace Go.Proofs.Ythapabjlhooglaa
open Go Go.RowKit
set_option linter.unusedSimpArgs false
set_option linter.unusedVariables false
theorem flightsure_walk (w : World) (c0 : List Value) (x0 : (Ty.st (.prod .u32 (.prod .int (.prod .int (.prod .int (.prod .int (.prod .int .unit))))))).T) (h0 : RdIn w (fun b=>b < w.heap.size) (Ty.st (.prod .u32 (.prod .int (.prod .int (.prod .int (.prod .int (.prod .int .unit))))))) x0 c0) (v1 : Value) (x1 : (Ty.sl FlTy).T) (h1 : RdIn w (fun b=>b < w.heap.size) (.sl FlTy) x1 [v1]) (c2 : List Value) (x2 : LogTy.T) (h2 : RdIn w (fun b=>b < w.heap.size) LogTy x2 c2) (v3 : Value) (x3 : Ty.bool.T) (h3 : RdIn w (fun b=>b < w.heap.size) .bool x3 [v3]) :
 Calls Try.prog 6 #[.agg c0.toArray,v1,.agg c2.toArray,v3] w fun e w'=>e = .returned (.bool true) ∧ Below w.heap.size w w':=by
 obtain ⟨x,hx⟩:=cfg_deep h0
 rw [hx]
 obtain ⟨A,ca,rfl⟩:=sl_deep h1
 obtain ⟨L,lc,rfl,⟨ha,hq,ht,hu⟩,hl⟩:=lg_view h2
 obtain ⟨b,rfl⟩:=bool_deep h3
 exact surelaw_core _ _ x x1 _ ca A rfl (lgL x2) _ lc L rfl _ _ ha hq _ _ ht hu b w h1 hl
end Go.Proofs.Ythapabjlhooglaa
