/- What this claim needs of my texts, merged and shortened by a program (part 8). -/
import Derived.OwnWalk
import Derived.Shelf.Bytes.SlJoin
import Derived.Test.YthapabjlhooglaaZFlightOrder7
namespace Go.Proofs.Ythapabjlhooglaa
open Go Go.RowKit Go.Maps
set_option linter.unusedSimpArgs false
set_option linter.unusedVariables false
set_option maxRecDepth 100000 in
set_option maxHeartbeats 4000000 in
theorem logcheck_any (S : Nat → Prop) (x : Cfg) (ls : List LvTy.T) (n lc : Nat) (L : Option Addr) (hn : ls.length = n) (ga gq : Nat) (hga : ga < 2 ^ 32) (hgq : gq < 2 ^ 32) (gt gu : Int) (hgt : IsInt gt) (hgu : IsInt gu) (w : World) (hr : RdIn w S (.sl LvTy) ls [.slice L n lc]) :
 Calls Try.prog 31 #[x.val,.agg #[.int .u32 (ga : Int),.int .u32 (gq : Int),.int .i64 gt,.int .i64 gu,.slice L n lc]] w fun e w'=>e = .returned (.int .i64 (if (decide x.Ok && logR x.m x.c x.r x.l ga gq gt gu ls) = true then 0 else 8)) ∧ Below w.heap.size w w':=by
 have HC:=Lib.hid (check_any x)
 have HRI:=Lib.hid (fun (hx : x.Ok) (gR : Nat) (w : World) (hb : BoxOf w gR #[.int .u32 (ga : Int),.int .u32 (gq : Int),.int .i64 gt,.int .i64 gu,.slice L n lc,.int .u32 (x.id : Int),.int .i64 x.m,.int .i64 x.c,.int .i64 x.r,.int .i64 x.l,.int .i64 x.h] 120) (hr : RdIn w S (.sl LvTy) ls [.slice L n lc])=>lright_any S ls n lc L hn gR ga gq hga hgq gt gu hgt hgu x.id x.m x.c x.r x.l x.h hx w hb hr)
 obtain ⟨cv,hcv⟩ : ∃ z : Int,z = if (decide x.Ok && logR x.m x.c x.r x.l ga gq gt gu ls) = true then 0 else 8:=⟨_,rfl⟩
 rw [← hcv]
 have HCV:=Lib.hid hcv
 have C0:=BoxOf.alloc (BoxOf.new w #[.int .u32 (x.id : Int),.int .i64 x.m,.int .i64 x.c,.int .i64 x.r,.int .i64 x.l,.int .i64 x.h] 24) (.cells #[.int .u32 (ga : Int),.int .u32 (gq : Int),.int .i64 gt,.int .i64 gu,.slice L n lc] 60)
 have G0:=BoxOf.new' (w.alloc (.cells #[.int .u32 (x.id : Int),.int .i64 x.m,.int .i64 x.c,.int .i64 x.r,.int .i64 x.l,.int .i64 x.h] 24)) (w.heap.size + 1) #[.int .u32 (ga : Int),.int .u32 (gq : Int),.int .i64 gt,.int .i64 gu,.slice L n lc] 60 (by simp)
 have t0:=Ext.alloc (Ext.alloc (Below.refl w.heap.size w) (.cells #[.int .u32 (x.id : Int),.int .i64 x.m,.int .i64 x.c,.int .i64 x.r,.int .i64 x.l,.int .i64 x.h] 24)) (.cells #[.int .u32 (ga : Int),.int .u32 (gq : Int),.int .i64 gt,.int .i64 gu,.slice L n lc] 60)
 have HR:=Lib.hid (hr.below t0)
 clear hcv hr hn hga hgq hgt hgu
 by_cases hx : x.Ok
 · have hc0 : x.code = 0:=Cfg.code_ok hx
   rw [hc0] at HC
   have HRJ:=Lib.hid (HRI.out hx)
   have hcv2 : cv = if logR x.m x.c x.r x.l ga gq gt gu ls = true then 0 else 8:=by rw [HCV.out,decide_eq_true hx,Bool.true_and]
   have HCW:=Lib.hid hcv2
   clear hc0 hx HRI HCV hcv2
   obtain ⟨id,m,c,r,l,h⟩:=x
   unfold Cfg.val at *
   dsimp only at *
   obtain ⟨rb,hrb⟩ : ∃ z : Bool,z = logR m c r l ga gq gt gu ls:=⟨_,rfl⟩
   rw [← hrb] at HRJ HCW
   clear hrb
   go_enter Try.func31,Try.ntmps31
   go_upto_region 1 with fail
   generalize (w.alloc (.cells #[.int .u32 (id : Int),.int .i64 m,.int .i64 c,.int .i64 r,.int .i64 l,.int .i64 h] 24)).alloc (.cells #[.int .u32 (ga : Int),.int .u32 (gq : Int),.int .i64 gt,.int .i64 gu,.slice L n lc] 60) = W at *
   have x0:=C0.cell
   have y0:=G0.cell
   go_wp2_with fail
   refine (HC.out _).mono ?_
   rintro e w1 ⟨rfl,b1⟩
   have t1:=Ext.trans t0 b1
   have C1:=C0.next b1
   have G1:=G0.next b1
   have x1:=C1.cell
   have y1:=G1.cell
   have b2:=Ext.alloc (Below.refl w1.heap.size w1) (.cells #[.int .u32 (ga : Int),.int .u32 (gq : Int),.int .i64 gt,.int .i64 gu,.slice L n lc,.int .u32 (id : Int),.int .i64 m,.int .i64 c,.int .i64 r,.int .i64 l,.int .i64 h] 120)
   have R2:=BoxOf.new w1 #[.int .u32 (ga : Int),.int .u32 (gq : Int),.int .i64 gt,.int .i64 gu,.slice L n lc,.int .u32 (id : Int),.int .i64 m,.int .i64 c,.int .i64 r,.int .i64 l,.int .i64 h] 120
   have HR2:=Lib.hid ((HR.out.below b1).below b2)
   have t2:=Ext.trans t1 b2
   have HCA:=Lib.hid (HRJ.out w1.heap.size _ R2 HR2.out)
   clear x0 y0 C0 G0 t0 b1 HR HRJ C1 G1 t1 b2 R2 HR2
   go_wp2_with fail
   refine HCA.out.mono ?_
   rintro e w3 ⟨rfl,b3⟩
   have t3:=Ext.trans t2 b3
   clear x1 y1 HCA
   cases rb with
   | true=>
     have hm : cv = 0:=HCW.out
     subst hm
     go_wp2
     go_ret
     exact ⟨rfl,t3⟩
   | false=>
     have hm : cv = 8:=HCW.out
     subst hm
     go_wp2
     go_ret
     exact ⟨rfl,t3⟩
 · have hc0 : x.code = 8:=Cfg.code_bad hx
   rw [hc0] at HC
   have hcv2 : cv = 8:=by rw [HCV.out,decide_eq_false hx];rfl
   subst hcv2
   clear hc0 hx HRI HCV
   obtain ⟨id,m,c,r,l,h⟩:=x
   unfold Cfg.val at *
   dsimp only at *
   go_enter Try.func31,Try.ntmps31
   go_upto_region 1 with fail
   generalize (w.alloc (.cells #[.int .u32 (id : Int),.int .i64 m,.int .i64 c,.int .i64 r,.int .i64 l,.int .i64 h] 24)).alloc (.cells #[.int .u32 (ga : Int),.int .u32 (gq : Int),.int .i64 gt,.int .i64 gu,.slice L n lc] 60) = W at *
   have x0:=C0.cell
   have y0:=G0.cell
   go_wp2_with fail
   refine (HC.out _).mono ?_
   rintro e w1 ⟨rfl,b1⟩
   have t1:=Ext.trans t0 b1
   clear x0 y0
   go_wp2
   go_ret
   exact ⟨rfl,t1⟩
def unsB (sq : Nat) (up : Bool) (v : LvTy.T) : Bool:=!lvU v && (((lvQ v : Int) == (sq : Int)) || (up && decide (lvQ v < sq)))
set_option maxRecDepth 100000 in
set_option maxHeartbeats 1000000 in
theorem sure1_any (v : LvTy.T) (sq : Nat) (up : Bool) (gs gu : Nat) (w : World) (hs : BoxOf w gs #[.int .u32 (sq : Int)] 22) (hu : BoxOf w gu #[.bool up] 4) :
 Calls Try.prog 96 #[.agg #[.int .u32 (lvQ v : Int),.int .i64 (lvS v),.int .i64 (lvN v),.bool (lvP v),.bool (lvU v),.bool (lvH v)],.pointer (some ⟨gs,0,none⟩),.pointer (some ⟨gu,0,none⟩)] w fun e w'=>e = .returned (.bool (unsB sq up v)) ∧ Below w.heap.size w w':=by
 have t0:=Ext.alloc (Below.refl w.heap.size w) (.cells #[.int .u32 (lvQ v : Int),.int .i64 (lvS v),.int .i64 (lvN v),.bool (lvP v),.bool (lvU v),.bool (lvH v)] 73)
 have X0:=BoxOf.alloc hs (.cells #[.int .u32 (lvQ v : Int),.int .i64 (lvS v),.int .i64 (lvN v),.bool (lvP v),.bool (lvU v),.bool (lvH v)] 73)
 have Y0:=BoxOf.alloc hu (.cells #[.int .u32 (lvQ v : Int),.int .i64 (lvS v),.int .i64 (lvN v),.bool (lvP v),.bool (lvU v),.bool (lvH v)] 73)
 have Z0:=BoxOf.new w #[.int .u32 (lvQ v : Int),.int .i64 (lvS v),.int .i64 (lvN v),.bool (lvP v),.bool (lvU v),.bool (lvH v)] 73
 have HUB : Hid (unsB sq up v = (!lvU v && (((lvQ v : Int) == (sq : Int)) || (up && decide (lvQ v < sq))))):=rfl
 obtain ⟨uv,huv⟩ : ∃ z,z = unsB sq up v:=⟨_,rfl⟩
 rw [← huv] at HUB ⊢
 clear huv hs hu
 go_enter Try.func96,Try.ntmps96
 go_upto_region 1 with fail
 generalize w.alloc (.cells #[.int .u32 (lvQ v : Int),.int .i64 (lvS v),.int .i64 (lvN v),.bool (lvP v),.bool (lvU v),.bool (lvH v)] 73) = W at *
 have x0:=X0.cell
 have y0:=Y0.cell
 have z0:=Z0.cell
 clear X0 Y0 Z0
 rcases Bool.eq_false_or_eq_true (lvU v) with e1 | e1
 · have hb : uv = false:=by rw [HUB.out,e1];rfl
   subst hb
   go_wp2
   go_ret
   exact ⟨rfl,t0⟩
 rcases Bool.eq_false_or_eq_true ((lvQ v : Int) == (sq : Int)) with e2 | e2
 · have hb : uv = true:=by rw [HUB.out,e1,e2];rfl
   subst hb
   go_wp2
   go_ret
   exact ⟨rfl,t0⟩
 cases up with
 | false=>
   have hb : uv = false:=by rw [HUB.out,e1,e2];rfl
   subst hb
   go_wp2
   go_ret
   exact ⟨rfl,t0⟩
 | true=>
   have hb : uv = decide (lvQ v < sq):=by rw [HUB.out,e1,e2];rfl
   subst hb
   go_wp2
   go_ret
   exact ⟨rfl,t0⟩
set_option maxRecDepth 100000 in
set_option maxHeartbeats 2000000 in
theorem idx_uns (S : Nat → Prop) (fs : List LvTy.T) (B : Option Addr) (n d : Nat) (hn : fs.length = n) (sq : Nat) (up : Bool) (gs gu : Nat) (w : World) (hg : RdIn w S (.sl LvTy) fs [.slice B n d]) (hgs : BoxOf w gs #[.int .u32 (sq : Int)] 22) (hgu : BoxOf w gu #[.bool up] 4) :
 Calls Try.prog 101 #[.slice B n d,.func (.func 96) #[] #[.pointer (some ⟨gs,0,none⟩),.pointer (some ⟨gu,0,none⟩)]] w fun e w'=>IdxIs (unsB sq up) fs e ∧ Below w.heap.size w w':=by
 have HG:=Lib.hid hg
 have HGM : Hid (n ≤ maxLen):=by have:=lv_max hg;show n ≤ maxLen;omega
 have HNL:=Lib.hid hn
 have HGS:=Lib.hid (And.intro hgs hgu)
 clear hg hn
 go_enter Try.func101,Try.ntmps101
 go_upto_region 1 with fail
 obtain ⟨W,hW⟩ : ∃ z : World,z = w:=⟨_,rfl⟩
 have b0 : Below W.heap.size W w:=by rw [hW];exact Below.refl _ _
 have HWW:=Lib.hid hW
 rw [← hW] at HG
 clear hW
 go_wp2
 go_loopw [5,8] (fun v i wr=>∃ (j : Nat),j ≤ n ∧ i = .int .i64 j ∧ Below W.heap.size W wr ∧ Hid (∀ i,i < j → NotAt (unsB sq up) fs i)) (fun _ i _=>n - (intOf i).toNat)
 case atStart=>exact ⟨0,by omega,rfl,b0,fun i h=>absurd h (Nat.not_lt_zero _)⟩
 case round=>
  obtain ⟨j,hj,rfl,b1,HA⟩:=hrel
  clear b0
  have bw : Below w.heap.size w wr:=by have:=HWW.out;subst this;exact b1
  by_cases hlt : j < n
  · have hlf : j < fs.length:=by have:=HNL.out;omega
    obtain ⟨b,off,rfl,q0,q1,q2,q3,q4,q5,hi⟩:=lv_at (HG.out.below b1) hlf
    have HSK : Hid (NotAt (unsB sq up) fs j ↔ (unsB sq up) fs[j] = false):=⟨fun h=>h hlf,fun h _=>h⟩
    have HSY : Hid ((unsB sq up) fs[j] = true → IdxIs (unsB sq up) fs (.returned (.int .i64 (j : Int)))):=fun h=>IdxIs.at hlf h HA.out
    have HF0:=Lib.hid (sure1_any fs[j] sq up gs gu wr (HGS.out.1.next bw) (HGS.out.2.next bw))
    generalize fs[j] = g at *
    have HWJ:=next_wrap HGM.out hlt
    have HLJ:=Lib.hid hlt
    clear hi
    rcases Bool.eq_false_or_eq_true ((unsB sq up) g) with e1 | e1
    · have HF:=Lib.hid (HSY.out e1)
      have HF1:=HF0;rw [show unsB sq up g = _ from e1] at HF1
      go_wp2_with (go_at_call 96;refine HF1.out.mono ?_;rintro e w3 ⟨rfl,b3⟩)
      go_ret
      exact ⟨HF.out,Ext.trans bw b3⟩
    · have HA' : Hid (∀ i,i < j + 1 → NotAt (unsB sq up) fs i):=by
       intro i hi
       by_cases h : i = j
       · subst h
         exact HSK.out.2 e1
       · exact HA.out i (by omega)
      have HF1:=HF0;rw [show unsB sq up g = _ from e1] at HF1
      go_wp2_with (go_at_call 96;refine HF1.out.mono ?_;rintro e w3 ⟨rfl,b3⟩)
      have b5:=Ext.trans b1 b3
      go_roundw
      case rel=>exact ⟨j + 1,HLJ.out,by first | exact round_same HWJ | go_num,b5,HA'⟩
      case measure=>first | exact round_less HWJ HLJ.out | (have h:=HLJ.out;simp [intOf];omega)
  · have HN:=Lib.hid (IdxIs.none (p:=unsB sq up) (fs:=fs) (j:=j) HA.out (by have:=HNL.out;omega))
    go_wp2
    go_ret
    exact ⟨HN.out,bw⟩
theorem hasv_any (B : Option Addr) (n d : Nat) (fv : Value) (iv : Int) (w : World) (HC : Hid (Calls Try.prog 101 #[.slice B n d,fv] w fun e w'=>e = .returned (.int .i64 iv) ∧ Below w.heap.size w w')) :
 Calls Try.prog 95 #[.slice B n d,fv] w fun e w'=>e = .returned (.bool (decide (0 ≤ iv))) ∧ Below w.heap.size w w':=by
 go_enter Try.func95,Try.ntmps95
 go_wp2_with fail
 refine HC.out.mono ?_
 rintro e w1 ⟨rfl,b1⟩
 go_wp2
 go_ret
 exact ⟨rfl,b1⟩
def sureB (ls : List LvTy.T) (sq : Nat) (up : Bool) : Bool:=!(ls.any (unsB sq up))
set_option maxRecDepth 100000 in
set_option maxHeartbeats 2000000 in
theorem sure_any (S : Nat → Prop) (ls : List LvTy.T) (n lc : Nat) (L : Option Addr) (hn : ls.length = n) (ga gq : Nat) (gt gu : Int) (back nolog : Bool) (sq : Nat) (up : Bool) (w : World) (hr : RdIn w S (.sl LvTy) ls [.slice L n lc]) :
 Calls Try.prog 81 #[.agg #[.int .u32 (ga : Int),.int .u32 (gq : Int),.int .i64 gt,.int .i64 gu,.slice L n lc,.bool back,.bool nolog],.int .u32 (sq : Int),.bool up] w fun e w'=>e = .returned (.bool (sureB ls sq up)) ∧ Below w.heap.size w w':=by
 have J0:=BoxOf.alloc (BoxOf.alloc (BoxOf.new w #[.int .u32 (ga : Int),.int .u32 (gq : Int),.int .i64 gt,.int .i64 gu,.slice L n lc,.bool back,.bool nolog] 111) (.cells #[.int .u32 (sq : Int)] 22)) (.cells #[.bool up] 4)
 have S0:=BoxOf.alloc (BoxOf.new' (w.alloc (.cells #[.int .u32 (ga : Int),.int .u32 (gq : Int),.int .i64 gt,.int .i64 gu,.slice L n lc,.bool back,.bool nolog] 111)) (w.heap.size + 1) #[.int .u32 (sq : Int)] 22 (by simp)) (.cells #[.bool up] 4)
 have U0:=BoxOf.new' ((w.alloc (.cells #[.int .u32 (ga : Int),.int .u32 (gq : Int),.int .i64 gt,.int .i64 gu,.slice L n lc,.bool back,.bool nolog] 111)).alloc (.cells #[.int .u32 (sq : Int)] 22)) (w.heap.size + 2) #[.bool up] 4 (by simp)
 have t0:=Ext.alloc (Ext.alloc (Ext.alloc (Below.refl w.heap.size w) (.cells #[.int .u32 (ga : Int),.int .u32 (gq : Int),.int .i64 gt,.int .i64 gu,.slice L n lc,.bool back,.bool nolog] 111)) (.cells #[.int .u32 (sq : Int)] 22)) (.cells #[.bool up] 4)
 have HI:=Lib.hid (idx_uns S ls L n lc hn sq up (w.heap.size + 1) (w.heap.size + 2) _ (hr.below t0) S0 U0)
 unfold IdxIs at HI
 have HC:=Lib.hid (hasv_any L n lc _ _ _ HI)
 rw [idxI_any] at HC
 have HSB : Hid (sureB ls sq up = !(ls.any (unsB sq up))):=rfl
 have x0:=J0.cell
 clear hr hn S0 U0 J0 HI
 go_enter Try.func81,Try.ntmps81
 go_upto_region 1 with fail
 generalize ((w.alloc (.cells #[.int .u32 (ga : Int),.int .u32 (gq : Int),.int .i64 gt,.int .i64 gu,.slice L n lc,.bool back,.bool nolog] 111)).alloc (.cells #[.int .u32 (sq : Int)] 22)).alloc (.cells #[.bool up] 4) = W at *
 go_wp2_with fail
 refine HC.out.mono ?_
 rintro e w1 ⟨rfl,b1⟩
 have t1:=Ext.trans t0 b1
 clear x0 HC
 go_wp2
 go_ret
 exact ⟨by rw [HSB.out];rfl,t1⟩
end Go.Proofs.Ythapabjlhooglaa
namespace Go.Proofs.Ythapabjlhooglaa
open Go Go.RowKit Go.Maps
set_option linter.unusedSimpArgs false
set_option linter.unusedVariables false
def blkDone (ls : List LvTy.T) (soon : Bool) (s q : Nat) : Bool:=decide (s = 3) || (decide (s = 2) && (soon || sureB ls q false))
def blksDone (ls : List LvTy.T) (soon : Bool) : List UInt8 → List Nat → Bool
 | s :: ss,q :: qs=>blkDone ls soon s.toNat q && blksDone ls soon ss qs
 | _,_=>true
def doneB (ls : List LvTy.T) (back nolog : Bool) (f : FlTy.T) (first : Bool) : Bool:=
 if kI f = 4 then nolog || sureB ls ((fQ f)[0]?.getD 0) true else if kI f = 6 then first && decide (ls.length = 0) else blksDone ls (back && decide (kI f ≠ 3)) (fS f) (fQ f)
def DoneAt (ls : List LvTy.T) (soon : Bool) (ss : List UInt8) (qs : List Nat) (i : Nat) : Prop:=∀ (h : i < ss.length) (h1 : i < qs.length),blkDone ls soon ss[i].toNat qs[i] = true
theorem blksDone_iff {ls : List LvTy.T} {soon : Bool} : ∀ {ss : List UInt8} {qs : List Nat},ss.length ≤ qs.length → (blksDone ls soon ss qs = true ↔ ∀ i,i < ss.length → DoneAt ls soon ss qs i)
 | [],qs,_=>by simp [blksDone]
 | s :: ss,[],h=>by simp at h
 | s :: ss,q :: qs,h=>by
   unfold blksDone
   rw [Bool.and_eq_true,blksDone_iff (by simpa using h)]
   constructor
   · rintro ⟨h1,h2⟩ i hi h3 h4
     cases i with
     | zero=>exact h1
     | succ i=>exact h2 i (by simpa using hi) (by simpa using h3) (by simpa using h4)
   · intro h1
     exact ⟨h1 0 (by simp) (by simp) (by simp),fun i hi h3 h4=>h1 (i + 1) (by simpa using hi) (by simpa using h3) (by simpa using h4)⟩
theorem blksDone_no {ls : List LvTy.T} {soon : Bool} {ss : List UInt8} {qs : List Nat} (hl : ss.length ≤ qs.length) {i : Nat} (hi : i < ss.length) (h : blkDone ls soon ss[i].toNat (qs[i]'(by omega)) = false) : blksDone ls soon ss qs = false:=by
 cases h1 : blksDone ls soon ss qs
 · rfl
 · rw [blksDone_iff hl] at h1
   have h2:=h1 i hi hi (by omega)
   rw [h] at h2
   cases h2
set_option maxRecDepth 100000 in
set_option maxHeartbeats 8000000 in
theorem done_any (S T : Nat → Prop) (ls : List LvTy.T) (n lc : Nat) (L : Option Addr) (hn : ls.length = n) (ga gq : Nat) (gt gu : Int) (back nolog : Bool) (f : FlTy.T) (first : Bool) (Ab : Option Addr) (cb : Nat) (As : Option Addr) (cs : Nat) (Aq : Option Addr) (cq : Nat) (Ax : Option Addr) (cx : Nat) (h4 : kI f = 4 → 0 < (fQ f).length) (hl : kI f ≠ 4 → (fS f).length ≤ (fQ f).length)
 (w : World) (hr : RdIn w S (.sl LvTy) ls [.slice L n lc]) (hS : RdIn w T (.sl .byte) (fS f) [.slice As (fS f).length cs]) (hQ : RdIn w T (.sl .u32) (fQ f) [.slice Aq (fQ f).length cq]) :
 Calls Try.prog 61 #[.agg #[.int .u32 (ga : Int),.int .u32 (gq : Int),.int .i64 gt,.int .i64 gu,.slice L n lc,.bool back,.bool nolog],.agg #[.int .i64 (fN f),.int .u8 (kI f),.int .i64 (fA f),.int .i64 (fM f),.slice Ab (fD f).length cb,.slice As (fS f).length cs,.slice Aq (fQ f).length cq,.slice Ax (fB f).length cx],.bool first] w fun e w'=>e = .returned (.bool (doneB ls back nolog f first)) ∧ Below w.heap.size w w':=by
 have HSU:=Lib.hid (fun (sq : Nat) (up : Bool) (w : World) (hr : RdIn w S (.sl LvTy) ls [.slice L n lc])=>sure_any S ls n lc L hn ga gq gt gu back nolog sq up w hr)
 have HDB : Hid (doneB ls back nolog f first = if kI f = 4 then nolog || sureB ls ((fQ f)[0]?.getD 0) true else if kI f = 6 then first && decide (ls.length = 0) else blksDone ls (back && decide (kI f ≠ 3)) (fS f) (fQ f)):=rfl
 obtain ⟨dv,hdv⟩ : ∃ z : Bool,z = doneB ls back nolog f first:=⟨_,rfl⟩
 rw [← hdv] at HDB ⊢
 clear hdv
 have J0:=BoxOf.alloc (BoxOf.new w #[.int .u32 (ga : Int),.int .u32 (gq : Int),.int .i64 gt,.int .i64 gu,.slice L n lc,.bool back,.bool nolog] 111) (.cells #[.int .i64 (fN f),.int .u8 (kI f),.int .i64 (fA f),.int .i64 (fM f),.slice Ab (fD f).length cb,.slice As (fS f).length cs,.slice Aq (fQ f).length cq,.slice Ax (fB f).length cx] 67)
 have F0:=BoxOf.new' (w.alloc (.cells #[.int .u32 (ga : Int),.int .u32 (gq : Int),.int .i64 gt,.int .i64 gu,.slice L n lc,.bool back,.bool nolog] 111)) (w.heap.size + 1) #[.int .i64 (fN f),.int .u8 (kI f),.int .i64 (fA f),.int .i64 (fM f),.slice Ab (fD f).length cb,.slice As (fS f).length cs,.slice Aq (fQ f).length cq,.slice Ax (fB f).length cx] 67 (by simp)
 have t0:=Ext.alloc (Ext.alloc (Below.refl w.heap.size w) (.cells #[.int .u32 (ga : Int),.int .u32 (gq : Int),.int .i64 gt,.int .i64 gu,.slice L n lc,.bool back,.bool nolog] 111)) (.cells #[.int .i64 (fN f),.int .u8 (kI f),.int .i64 (fA f),.int .i64 (fM f),.slice Ab (fD f).length cb,.slice As (fS f).length cs,.slice Aq (fQ f).length cq,.slice Ax (fB f).length cx] 67)
 have HR:=Lib.hid hr
 have HSS:=Lib.hid (hS.below t0)
 have HQQ:=Lib.hid (hQ.below t0)
 have HQ0:=Lib.hid hQ
 have HSM : Hid ((fS f).length ≤ maxLen):=byte_max hS
 have HNL:=Lib.hid hn
 have HH4:=Lib.hid h4
 have HHL:=Lib.hid hl
 clear hr hn h4 hl hS hQ
 go_enter Try.func61,Try.ntmps61
 go_upto_region 1 with fail
 generalize (w.alloc (.cells #[.int .u32 (ga : Int),.int .u32 (gq : Int),.int .i64 gt,.int .i64 gu,.slice L n lc,.bool back,.bool nolog] 111)).alloc (.cells #[.int .i64 (fN f),.int .u8 (kI f),.int .i64 (fA f),.int .i64 (fM f),.slice Ab (fD f).length cb,.slice As (fS f).length cs,.slice Aq (fQ f).length cq,.slice Ax (fB f).length cx] 67) = W at *
 obtain ⟨gf,hgf⟩ : ∃ z : Nat,z = w.heap.size + 1:=⟨_,rfl⟩
 rw [← hgf] at F0 ⊢
 clear hgf
 obtain ⟨gj,hgj⟩ : ∃ z : Nat,z = w.heap.size:=⟨_,rfl⟩
 rw [← hgj] at J0 ⊢
 clear hgj
 have x0:=J0.cell
 have y0:=F0.cell
 by_cases hk4 : kI f = 4
 · have HQ1:=HH4.out hk4
   have HD1 : Hid (dv = (nolog || sureB ls ((fQ f)[0]'HQ1) true)):=by
    show _ = _
    rw [HDB.out,if_pos hk4,List.getElem?_eq_getElem HQ1]
    rfl
   obtain ⟨bq,oq,hAq,kq⟩:=sq_at HQQ.out HQ1
   generalize (fQ f)[0]'HQ1 = sq at *
   have hq0 : (0 : Nat) < (fQ f).length:=HQ1
   rw [Nat.add_zero] at kq
   have e4 : (kI f == 4) = true:=by simpa using hk4
   subst hAq
   clear hk4 HDB
   go_upto_region 3 with fail
   have HS : Hid (∀ w',Below W.heap.size W w' → (Below W.heap.size W w' ∧ (∀ o,w'.cell? ⟨gj,o,none⟩ = (#[.int .u32 (ga : Int),.int .u32 (gq : Int),.int .i64 gt,.int .i64 gu,.slice L n lc,.bool back,.bool nolog] : Array Value).toList[o]?) ∧ (∀ o,w'.cell? ⟨gf,o,none⟩ = (#[.int .i64 (fN f),.int .u8 (kI f),.int .i64 (fA f),.int .i64 (fM f),.slice Ab (fD f).length cb,.slice As (fS f).length cs,.slice (some ⟨bq,oq,none⟩) (fQ f).length cq,.slice Ax (fB f).length cx] : Array Value).toList[o]?) ∧ w'.cell? ⟨bq,oq,none⟩ = some (.int .u32 (sq : Int)))):=fun w' bb=>⟨bb,(J0.next bb).cell,(F0.next bb).cell,(bb.cell (p:=⟨bq,oq,none⟩) (block_lt_of_cell kq)).trans kq⟩
   refine wp_region_held_drew (S:=fun w'=>Below W.heap.size W w' ∧ (∀ o,w'.cell? ⟨gj,o,none⟩ = (#[.int .u32 (ga : Int),.int .u32 (gq : Int),.int .i64 gt,.int .i64 gu,.slice L n lc,.bool back,.bool nolog] : Array Value).toList[o]?) ∧ (∀ o,w'.cell? ⟨gf,o,none⟩ = (#[.int .i64 (fN f),.int .u8 (kI f),.int .i64 (fA f),.int .i64 (fM f),.slice Ab (fD f).length cb,.slice As (fS f).length cs,.slice (some ⟨bq,oq,none⟩) (fQ f).length cq,.slice Ax (fB f).length cx] : Array Value).toList[o]?) ∧ w'.cell? ⟨bq,oq,none⟩ = some (.int .u32 (sq : Int))) (by kernel_rfl) (HS.out _ (Ext.drew (Below.refl _ _))) (fun hS=>?_)
   clear x0 y0 J0 F0 kq
   cases nolog with
   | true=>
     have hb : Hid (dv = true):=by show _ = _;rw [HD1.out];rfl
     refine wpAnyH_take (i:=0) (v:=?_) rfl (by kernel_rfl) (by kernel_rfl) (by kernel_rfl) (fun _ _ _ h=>h) (Or.inl ⟨by rfl,?_⟩) hS ?_
     rotate_left
     · (intro w hSw;(try dsimp only at hSw);go_simp;(try with_reducible rfl))
     rotate_left
     simp only [Act.put,zq0,zq1,zq2,zq3,zq4,zq5]
     refine wpAnyH_take (i:=1) (v:=?_) rfl (by kernel_rfl) (by kernel_rfl) (by kernel_rfl) (fun _ _ _ h=>h) (Or.inl ⟨by rfl,?_⟩) hS ?_
     rotate_left
     · (intro w hSw;(try dsimp only at hSw);go_simp;(try with_reducible rfl))
     rotate_left
     simp only [Act.put,zq0,zq1,zq2,zq3,zq4,zq5]
     refine wpAnyH_take (i:=2) (v:=?_) rfl (by kernel_rfl) (by kernel_rfl) (by kernel_rfl) (fun _ _ _ h=>h) (Or.inl ⟨by rfl,?_⟩) hS ?_
     rotate_left
     · (intro w hSw;(try dsimp only at hSw);go_simp;(try with_reducible rfl))
     rotate_left
     simp only [Act.put,zq0,zq1,zq2,zq3,zq4,zq5]
     refine wpAnyH_take (i:=3) (v:=?_) rfl (by kernel_rfl) (by kernel_rfl) (by kernel_rfl) (fun _ _ _ h=>h) (Or.inr ⟨by rfl,?_⟩) hS ?_
     rotate_left
     · rfl
     rotate_left
     simp only [Act.put,zq0,zq1,zq2,zq3,zq4,zq5]
     refine wpAnyH_take (i:=4) (v:=?_) rfl (by kernel_rfl) (by kernel_rfl) (by kernel_rfl) (fun _ _ _ h=>h) (Or.inr ⟨by rfl,?_⟩) hS ?_
     rotate_left
     · rfl
     rotate_left
     simp only [Act.put,zq0,zq1,zq2,zq3,zq4,zq5]
     refine wpAnyH_take (i:=5) (v:=?_) rfl (by kernel_rfl) (by kernel_rfl) (by kernel_rfl) (fun _ _ _ h=>h) (Or.inr ⟨by rfl,?_⟩) hS ?_
     rotate_left
     · rfl
     rotate_left
     simp only [Act.put,zq0,zq1,zq2,zq3,zq4,zq5]
     refine wpAnyH_take (i:=6) (v:=?_) rfl (by kernel_rfl) (by kernel_rfl) (by kernel_rfl) (fun _ _ _ h=>h) (Or.inr ⟨by rfl,?_⟩) hS ?_
     rotate_left
     · rfl
     rotate_left
     simp only [Act.put,zq0,zq1,zq2,zq3,zq4,zq5]
     refine wpAnyH_take (i:=7) (v:=?_) rfl (by kernel_rfl) (by kernel_rfl) (by kernel_rfl) (fun _ _ _ h=>h) (Or.inr ⟨by rfl,?_⟩) hS ?_
     rotate_left
     · rfl
     rotate_left
     simp only [Act.put,zq0,zq1,zq2,zq3,zq4,zq5]
     refine wpAnyH_take (i:=8) (v:=?_) rfl (by kernel_rfl) (by kernel_rfl) (by kernel_rfl) (fun _ _ _ h=>h) (Or.inr ⟨by rfl,?_⟩) hS ?_
     rotate_left
     · rfl
     rotate_left
     simp only [Act.put,zq0,zq1,zq2,zq3,zq4,zq5]
     refine wpAnyH_take (i:=9) (v:=?_) rfl (by kernel_rfl) (by kernel_rfl) (by kernel_rfl) (fun _ _ _ h=>h) (Or.inl ⟨by rfl,?_⟩) hS ?_
     rotate_left
     · (intro w hSw;(try dsimp only at hSw);go_simp;(try with_reducible rfl))
     rotate_left
     simp only [Act.put,zq0,zq1,zq2,zq3,zq4,zq5]
     refine wpAnyH_take (i:=10) (v:=?_) rfl (by kernel_rfl) (by kernel_rfl) (by kernel_rfl) (fun _ _ _ h=>h) (Or.inl ⟨by rfl,?_⟩) hS ?_
     rotate_left
     · (intro w hSw;(try dsimp only at hSw);go_simp;(try with_reducible rfl))
     rotate_left
     simp only [Act.put,zq0,zq1,zq2,zq3,zq4,zq5]
     refine wpAnyH_done (by kernel_rfl) ?_ _
     have HT:=Lib.hid hS.1
     clear hS
     go_wp2
     go_ret
     exact ⟨by have h:=hb.out;rw [h];try rfl,Ext.trans t0 HT.out⟩
   | false=>
     have hb : Hid (dv = sureB ls sq true):=by show _ = _;rw [HD1.out];rfl
     refine wpAnyH_take (i:=0) (v:=?_) rfl (by kernel_rfl) (by kernel_rfl) (by kernel_rfl) (fun _ _ _ h=>h) (Or.inl ⟨by rfl,?_⟩) hS ?_
     rotate_left
     · (intro w hSw;(try dsimp only at hSw);go_simp;(try with_reducible rfl))
     rotate_left
     simp only [Act.put,zq0,zq1,zq2,zq3,zq4,zq5]
     refine wpAnyH_take (i:=1) (v:=?_) rfl (by kernel_rfl) (by kernel_rfl) (by kernel_rfl) (fun _ _ _ h=>h) (Or.inl ⟨by rfl,?_⟩) hS ?_
     rotate_left
     · (intro w hSw;(try dsimp only at hSw);go_simp;(try with_reducible rfl))
     rotate_left
     simp only [Act.put,zq0,zq1,zq2,zq3,zq4,zq5]
     refine wpAnyH_take (i:=2) (v:=?_) rfl (by kernel_rfl) (by kernel_rfl) (by kernel_rfl) (fun _ _ _ h=>h) (Or.inl ⟨by rfl,?_⟩) hS ?_
     rotate_left
     · (intro w hSw;(try dsimp only at hSw);go_simp;(try with_reducible rfl))
     rotate_left
     simp only [Act.put,zq0,zq1,zq2,zq3,zq4,zq5]
     refine wpAnyH_take (i:=3) (v:=?_) rfl (by kernel_rfl) (by kernel_rfl) (by kernel_rfl) (fun _ _ _ h=>h) (Or.inl ⟨by rfl,?_⟩) hS ?_
     rotate_left
     · (intro w hSw;(try dsimp only at hSw);go_simp;(try with_reducible rfl))
     rotate_left
     simp only [Act.put,zq0,zq1,zq2,zq3,zq4,zq5]
     refine wpAnyH_take (i:=4) (v:=?_) rfl (by kernel_rfl) (by kernel_rfl) (by kernel_rfl) (fun _ _ _ h=>h) (Or.inl ⟨by rfl,?_⟩) hS ?_
     rotate_left
     · (intro w hSw;(try dsimp only at hSw);go_simp;(try with_reducible rfl))
     rotate_left
     simp only [Act.put,zq0,zq1,zq2,zq3,zq4,zq5]
     refine wpAnyH_take (i:=5) (v:=?_) rfl (by kernel_rfl) (by kernel_rfl) (by kernel_rfl) (fun _ _ _ h=>h) (Or.inl ⟨by rfl,?_⟩) hS ?_
     rotate_left
     · (intro w hSw;(try dsimp only at hSw);go_simp;(try with_reducible rfl))
     rotate_left
     simp only [Act.put,zq0,zq1,zq2,zq3,zq4,zq5]
     refine wpAnyH_take (i:=6) (v:=?_) rfl (by kernel_rfl) (by kernel_rfl) (by kernel_rfl) (fun _ _ _ h=>h) (Or.inl ⟨by rfl,?_⟩) hS ?_
     rotate_left
     · (intro w hSw;(try dsimp only at hSw);go_simp;(try with_reducible rfl))
     rotate_left
     simp only [Act.put,zq0,zq1,zq2,zq3,zq4,zq5]
     refine wpAnyH_take (i:=7) (v:=?_) rfl (by kernel_rfl) (by kernel_rfl) (by kernel_rfl) (fun _ _ _ h=>h) (Or.inl ⟨by rfl,?_⟩) hS ?_
     rotate_left
     · (intro w hSw;(try dsimp only at hSw);go_simp;(try with_reducible rfl))
     rotate_left
     simp only [Act.put,zq0,zq1,zq2,zq3,zq4,zq5]
     refine wpAnyH_ready (rs:=[8]) (by kernel_rfl) (by simp) ?_
     refine AllReadyH.cons rfl (fun K hK=>?_) AllReadyH.nil
     rw [if_pos (by rfl)]
     go_simp
     refine (HSU.out _ _ _ (HR.out.below (Ext.trans t0 hS.1))).mono ?_
     rintro e w3 ⟨rfl,k3⟩
     refine hK.out _ _ (HS.out _ (Ext.trans hS.1 k3)) (fun hS'=>?_)
     clear hK K hS k3
     have hS:=hS'
     clear hS'
     try simp only [Act.put,zq0,zq1,zq2,zq3,zq4,zq5]
     refine wpAnyH_take (i:=9) (v:=?_) rfl (by kernel_rfl) (by kernel_rfl) (by kernel_rfl) (fun _ _ _ h=>h) (Or.inl ⟨by rfl,?_⟩) hS ?_
     rotate_left
     · (intro w hSw;(try dsimp only at hSw);go_simp;(try with_reducible rfl))
     rotate_left
     simp only [Act.put,zq0,zq1,zq2,zq3,zq4,zq5]
     refine wpAnyH_take (i:=10) (v:=?_) rfl (by kernel_rfl) (by kernel_rfl) (by kernel_rfl) (fun _ _ _ h=>h) (Or.inl ⟨by rfl,?_⟩) hS ?_
     rotate_left
     · (intro w hSw;(try dsimp only at hSw);go_simp;(try with_reducible rfl))
     rotate_left
     simp only [Act.put,zq0,zq1,zq2,zq3,zq4,zq5]
     refine wpAnyH_done (by kernel_rfl) ?_ _
     have HT:=Lib.hid hS.1
     clear hS
     go_wp2
     go_ret
     exact ⟨by have h:=hb.out;rw [h];try rfl,Ext.trans t0 HT.out⟩
 have e4 : (kI f == 4) = false:=by simpa using hk4
 by_cases hk6 : kI f = 6
 · have e6 : (kI f == 6) = true:=by simpa using hk6
   have HD1 : Hid (dv = (first && decide (ls.length = 0))):=by
    show _ = _
    rw [HDB.out,if_neg hk4,if_pos hk6]
   clear hk4 hk6 HDB
   cases first with
   | false=>
     have hb : dv = false:=HD1.out
     subst hb
     go_wp2
     go_ret
     exact ⟨rfl,t0⟩
   | true=>
     have hb : dv = ((n : Int) == 0):=by
      rw [HD1.out,HNL.out,Bool.true_and]
      by_cases h0 : n = 0
      · subst h0;rfl
      · rw [decide_eq_false h0]
        exact (beq_eq_false_iff_ne.2 (by omega)).symm
     subst hb
     go_wp2
     go_ret
     exact ⟨rfl,t0⟩
 have e6 : (kI f == 6) = false:=by simpa using hk6
 obtain ⟨so,hso⟩ : ∃ z : Bool,z = (back && decide (kI f ≠ 3)):=⟨_,rfl⟩
 have HSO:=Lib.hid hso
 have HD1 : Hid (dv = blksDone ls so (fS f) (fQ f)):=by
  show _ = _
  rw [HDB.out,if_neg hk4,if_neg hk6,hso]
 have HLE:=Lib.hid (HHL.out hk4)
 clear hk4 hk6 HDB hso
 obtain ⟨ns,hns⟩ : ∃ z : Nat,z = (fS f).length:=⟨_,rfl⟩
 have HNS:=Lib.hid hns
 obtain ⟨W0,hW0⟩ : ∃ z : World,z = W:=⟨_,rfl⟩
 have b0 : Below W0.heap.size W0 W:=by rw [hW0];exact Below.refl _ _
 have HTW : Hid (Below w.heap.size w W0):=by show Below _ _ _;rw [hW0];exact t0
 have HJW : Hid (BoxOf W0 gj #[.int .u32 (ga : Int),.int .u32 (gq : Int),.int .i64 gt,.int .i64 gu,.slice L n lc,.bool back,.bool nolog] 111):=by show BoxOf _ _ _ _;rw [hW0];exact J0
 have HFW : Hid (BoxOf W0 gf #[.int .i64 (fN f),.int .u8 (kI f),.int .i64 (fA f),.int .i64 (fM f),.slice Ab (fD f).length cb,.slice As (fS f).length cs,.slice Aq (fQ f).length cq,.slice Ax (fB f).length cx] 67):=by show BoxOf _ _ _ _;rw [hW0];exact F0
 rw [← hW0] at HSS HQQ
 clear hW0 J0 F0 t0
 go_upto_region 6 with fail
 rw [← hns] at y0
 clear hns
 go_wp2
 clear x0 y0
 go_loopw [38] (fun i wr=>∃ (j : Nat),j ≤ ns ∧ i = .int .i64 j ∧ Below W0.heap.size W0 wr ∧ Hid (∀ i,i < j → DoneAt ls so (fS f) (fQ f) i)) (fun i _=>ns - (intOf i).toNat)
 case atStart=>exact ⟨0,Nat.zero_le _,rfl,b0,fun i h=>absurd h (Nat.not_lt_zero _)⟩
 case round=>
  obtain ⟨j,hj,rfl,bj,HA⟩:=hrel
  clear b0
  by_cases hlt : j < ns
  · have hlf : j < (fS f).length:=by have:=HNS.out;omega
    have hlq : j < (fQ f).length:=by have:=HLE.out;omega
    obtain ⟨bs,os,hAs,ks⟩:=st_at (HSS.out.below bj) hlf
    obtain ⟨bq,oq,hAq,kq⟩:=sq_at (HQQ.out.below bj) hlq
    have HSK : Hid (DoneAt ls so (fS f) (fQ f) j ↔ blkDone ls so (fS f)[j].toNat (fQ f)[j] = true):=⟨fun h=>h hlf hlq,fun h _ _=>h⟩
    have HSN : Hid (blkDone ls so (fS f)[j].toNat (fQ f)[j] = false → blksDone ls so (fS f) (fQ f) = false):=fun h=>blksDone_no HLE.out hlf h
    obtain ⟨st,hst⟩ : ∃ z : Nat,z = (fS f)[j].toNat:=⟨_,rfl⟩
    rw [← hst] at HSK HSN ks
    generalize (fQ f)[j] = sq at *
    have HBD : Hid (blkDone ls so st sq = (decide (st = 3) || (decide (st = 2) && (so || sureB ls sq false)))):=rfl
    subst hAs hAq
    have x1:=(HJW.out.next bj).cell
    have y1:=(HFW.out.next bj).cell
    have HWJ:=next_wrap (show ns ≤ maxLen by have:=HSM.out;have:=HNS.out;omega) hlt
    have HLT:=Lib.hid hlt
    have HB1:=Lib.hid bj
    rw [← HNS.out] at y1
    clear hst hlf bj
    go_upto_region 9 with fail
    go_cut [9] (fun s9 wx=>s9 = .bool so ∧ wx = wr)
    case first=>
     cases back with
     | false=>
       have h1 : so = false:=HSO.out
       subst h1
       go_wp2_with fail
       go_meet
       exact ⟨rfl,rfl⟩
     | true=>
     rcases Bool.eq_false_or_eq_true (kI f != 3) with e3 | e3
     · have h1 : so = true:=by rw [HSO.out,Bool.true_and];exact decide_eq_true (by simpa using e3)
       subst h1
       go_wp2_with fail
       go_meet
       exact ⟨rfl,rfl⟩
     · have h1 : so = false:=by rw [HSO.out,Bool.true_and];exact decide_eq_false (by simpa using e3)
       subst h1
       go_wp2_with fail
       go_meet
       exact ⟨rfl,rfl⟩
    case rest=>
    obtain ⟨rfl,rfl⟩:=hcut
    have HSX : Hid (∀ w',Below wc.heap.size wc w' → (Below wc.heap.size wc w' ∧ (∀ o,w'.cell? ⟨gj,o,none⟩ = (#[.int .u32 (ga : Int),.int .u32 (gq : Int),.int .i64 gt,.int .i64 gu,.slice L n lc,.bool back,.bool nolog] : Array Value).toList[o]?) ∧ (∀ o,w'.cell? ⟨gf,o,none⟩ = (#[.int .i64 (fN f),.int .u8 (kI f),.int .i64 (fA f),.int .i64 (fM f),.slice Ab (fD f).length cb,.slice (some ⟨bs,os,none⟩) ns cs,.slice (some ⟨bq,oq,none⟩) (fQ f).length cq,.slice Ax (fB f).length cx] : Array Value).toList[o]?) ∧ w'.cell? ⟨bq,oq + j,none⟩ = some (.int .u32 (sq : Int)))):=fun w' bb=>⟨bb,(HJW.out.next (Ext.trans HB1.out bb)).cell,by
     have h1:=(HFW.out.next (Ext.trans HB1.out bb)).cell
     rw [← HNS.out] at h1
     exact h1,(bb.cell (p:=⟨bq,oq + j,none⟩) (block_lt_of_cell kq)).trans kq⟩
    have HTX:=Lib.hid (Ext.trans HTW.out HB1.out)
    have HS:=HSX
    have tW:=Ext.trans HTW.out HB1.out
    have HNXT : Hid (blkDone ls so st sq = true → ∀ i,i < j + 1 → DoneAt ls so (fS f) (fQ f) i):=fun h i hi=>by
     by_cases e : i = j
     · subst e;exact HSK.out.2 h
     · exact HA.out i (by omega)
    have HRET : Hid (blkDone ls so st sq = false → dv = false):=fun h=>by rw [HD1.out];exact HSN.out h
    clear x1 y1 kq ks HSK HSN HA HSX
    go_upto_region 10 with fail
    refine wp_region_held_drew (S:=fun w'=>Below wc.heap.size wc w' ∧ (∀ o,w'.cell? ⟨gj,o,none⟩ = (#[.int .u32 (ga : Int),.int .u32 (gq : Int),.int .i64 gt,.int .i64 gu,.slice L n lc,.bool back,.bool nolog] : Array Value).toList[o]?) ∧ (∀ o,w'.cell? ⟨gf,o,none⟩ = (#[.int .i64 (fN f),.int .u8 (kI f),.int .i64 (fA f),.int .i64 (fM f),.slice Ab (fD f).length cb,.slice (some ⟨bs,os,none⟩) ns cs,.slice (some ⟨bq,oq,none⟩) (fQ f).length cq,.slice Ax (fB f).length cx] : Array Value).toList[o]?) ∧ w'.cell? ⟨bq,oq + j,none⟩ = some (.int .u32 (sq : Int))) (by kernel_rfl) (HS.out _ (Ext.drew (Below.refl _ _))) (fun hS=>?_)
    rcases Bool.eq_false_or_eq_true ((st : Int) != 3) with e1 | e1
    rotate_left
    · have hb : Hid (blkDone ls so st sq = true):=by show _ = _;rw [HBD.out,decide_eq_true (show st = 3 by simp at e1;omega)];rfl
      refine wpAnyH_take (i:=0) (v:=?_) rfl (by kernel_rfl) (by kernel_rfl) (by kernel_rfl) (fun _ _ _ h=>h) (Or.inl ⟨by rfl,?_⟩) hS ?_
      rotate_left
      · (intro w hSw;(try dsimp only at hSw);go_simp;(try with_reducible rfl))
      rotate_left
      simp only [Act.put,zq0,zq1,zq2,zq3,zq4,zq5]
      refine wpAnyH_take (i:=1) (v:=?_) rfl (by kernel_rfl) (by kernel_rfl) (by kernel_rfl) (fun _ _ _ h=>h) (Or.inl ⟨by rfl,?_⟩) hS ?_
      rotate_left
      · (intro w hSw;(try dsimp only at hSw);go_simp;(try with_reducible rfl))
      rotate_left
      simp only [Act.put,zq0,zq1,zq2,zq3,zq4,zq5]
      refine wpAnyH_take (i:=2) (v:=?_) rfl (by kernel_rfl) (by kernel_rfl) (by kernel_rfl) (fun _ _ _ h=>h) (Or.inl ⟨by rfl,?_⟩) hS ?_
      rotate_left
      · (intro w hSw;(try dsimp only at hSw);go_simp;(try with_reducible rfl))
      rotate_left
      simp only [Act.put,zq0,zq1,zq2,zq3,zq4,zq5]
      refine wpAnyH_take (i:=3) (v:=?_) rfl (by kernel_rfl) (by kernel_rfl) (by kernel_rfl) (fun _ _ _ h=>h) (Or.inr ⟨by rfl,?_⟩) hS ?_
      rotate_left
      · rfl
      rotate_left
      simp only [Act.put,zq0,zq1,zq2,zq3,zq4,zq5]
      refine wpAnyH_take (i:=4) (v:=?_) rfl (by kernel_rfl) (by kernel_rfl) (by kernel_rfl) (fun _ _ _ h=>h) (Or.inr ⟨by rfl,?_⟩) hS ?_
      rotate_left
      · rfl
      rotate_left
      simp only [Act.put,zq0,zq1,zq2,zq3,zq4,zq5]
      refine wpAnyH_take (i:=5) (v:=?_) rfl (by kernel_rfl) (by kernel_rfl) (by kernel_rfl) (fun _ _ _ h=>h) (Or.inr ⟨by rfl,?_⟩) hS ?_
      rotate_left
      · rfl
      rotate_left
      simp only [Act.put,zq0,zq1,zq2,zq3,zq4,zq5]
      refine wpAnyH_take (i:=6) (v:=?_) rfl (by kernel_rfl) (by kernel_rfl) (by kernel_rfl) (fun _ _ _ h=>h) (Or.inr ⟨by rfl,?_⟩) hS ?_
      rotate_left
      · rfl
      rotate_left
      simp only [Act.put,zq0,zq1,zq2,zq3,zq4,zq5]
      refine wpAnyH_take (i:=7) (v:=?_) rfl (by kernel_rfl) (by kernel_rfl) (by kernel_rfl) (fun _ _ _ h=>h) (Or.inr ⟨by rfl,?_⟩) hS ?_
      rotate_left
      · rfl
      rotate_left
      simp only [Act.put,zq0,zq1,zq2,zq3,zq4,zq5]
      refine wpAnyH_take (i:=8) (v:=?_) rfl (by kernel_rfl) (by kernel_rfl) (by kernel_rfl) (fun _ _ _ h=>h) (Or.inr ⟨by rfl,?_⟩) hS ?_
      rotate_left
      · rfl
      rotate_left
      simp only [Act.put,zq0,zq1,zq2,zq3,zq4,zq5]
      refine wpAnyH_take (i:=9) (v:=?_) rfl (by kernel_rfl) (by kernel_rfl) (by kernel_rfl) (fun _ _ _ h=>h) (Or.inr ⟨by rfl,?_⟩) hS ?_
      rotate_left
      · rfl
      rotate_left
      simp only [Act.put,zq0,zq1,zq2,zq3,zq4,zq5]
      refine wpAnyH_take (i:=10) (v:=?_) rfl (by kernel_rfl) (by kernel_rfl) (by kernel_rfl) (fun _ _ _ h=>h) (Or.inr ⟨by rfl,?_⟩) hS ?_
      rotate_left
      · rfl
      rotate_left
      simp only [Act.put,zq0,zq1,zq2,zq3,zq4,zq5]
      refine wpAnyH_take (i:=11) (v:=?_) rfl (by kernel_rfl) (by kernel_rfl) (by kernel_rfl) (fun _ _ _ h=>h) (Or.inr ⟨by rfl,?_⟩) hS ?_
      rotate_left
      · rfl
      rotate_left
      simp only [Act.put,zq0,zq1,zq2,zq3,zq4,zq5]
      refine wpAnyH_take (i:=12) (v:=?_) rfl (by kernel_rfl) (by kernel_rfl) (by kernel_rfl) (fun _ _ _ h=>h) (Or.inr ⟨by rfl,?_⟩) hS ?_
      rotate_left
      · rfl
      rotate_left
      simp only [Act.put,zq0,zq1,zq2,zq3,zq4,zq5]
      refine wpAnyH_take (i:=13) (v:=?_) rfl (by kernel_rfl) (by kernel_rfl) (by kernel_rfl) (fun _ _ _ h=>h) (Or.inr ⟨by rfl,?_⟩) hS ?_
      rotate_left
      · rfl
      rotate_left
      simp only [Act.put,zq0,zq1,zq2,zq3,zq4,zq5]
      refine wpAnyH_take (i:=14) (v:=?_) rfl (by kernel_rfl) (by kernel_rfl) (by kernel_rfl) (fun _ _ _ h=>h) (Or.inr ⟨by rfl,?_⟩) hS ?_
      rotate_left
      · rfl
      rotate_left
      simp only [Act.put,zq0,zq1,zq2,zq3,zq4,zq5]
      refine wpAnyH_take (i:=15) (v:=?_) rfl (by kernel_rfl) (by kernel_rfl) (by kernel_rfl) (fun _ _ _ h=>h) (Or.inr ⟨by rfl,?_⟩) hS ?_
      rotate_left
      · rfl
      rotate_left
      simp only [Act.put,zq0,zq1,zq2,zq3,zq4,zq5]
      refine wpAnyH_take (i:=16) (v:=?_) rfl (by kernel_rfl) (by kernel_rfl) (by kernel_rfl) (fun _ _ _ h=>h) (Or.inr ⟨by rfl,?_⟩) hS ?_
      rotate_left
      · rfl
      rotate_left
      simp only [Act.put,zq0,zq1,zq2,zq3,zq4,zq5]
      refine wpAnyH_take (i:=17) (v:=?_) rfl (by kernel_rfl) (by kernel_rfl) (by kernel_rfl) (fun _ _ _ h=>h) (Or.inr ⟨by rfl,?_⟩) hS ?_
      rotate_left
      · rfl
      rotate_left
      simp only [Act.put,zq0,zq1,zq2,zq3,zq4,zq5]
      refine wpAnyH_take (i:=18) (v:=?_) rfl (by kernel_rfl) (by kernel_rfl) (by kernel_rfl) (fun _ _ _ h=>h) (Or.inr ⟨by rfl,?_⟩) hS ?_
      rotate_left
      · rfl
      rotate_left
      simp only [Act.put,zq0,zq1,zq2,zq3,zq4,zq5]
      refine wpAnyH_take (i:=19) (v:=?_) rfl (by kernel_rfl) (by kernel_rfl) (by kernel_rfl) (fun _ _ _ h=>h) (Or.inl ⟨by rfl,?_⟩) hS ?_
      rotate_left
      · (intro w hSw;(try dsimp only at hSw);go_simp;(try with_reducible rfl))
      rotate_left
      simp only [Act.put,zq0,zq1,zq2,zq3,zq4,zq5]
      refine wpAnyH_done (by kernel_rfl) ?_ _
      have HT:=Lib.hid (Ext.trans HB1.out hS.1)
      have HA' : Hid (∀ i,i < j + 1 → DoneAt ls _ (fS f) (fQ f) i):=HNXT.out hb.out
      clear hS
      go_wp2
      go_roundw
      case rel=>exact ⟨j + 1,HLT.out,by first | exact round_same HWJ | go_num,HT.out,HA'⟩
      case measure=>first | exact round_less HWJ HLT.out | (have h:=HLT.out;simp [intOf];omega)
    have E1 : Hid (decide (st = 3) = false):=decide_eq_false (by simp at e1;omega)
    refine wpAnyH_take (i:=0) (v:=?_) rfl (by kernel_rfl) (by kernel_rfl) (by kernel_rfl) (fun _ _ _ h=>h) (Or.inl ⟨by rfl,?_⟩) hS ?_
    rotate_left
    · (intro w hSw;(try dsimp only at hSw);go_simp;(try with_reducible rfl))
    rotate_left
    simp only [Act.put,zq0,zq1,zq2,zq3,zq4,zq5]
    refine wpAnyH_take (i:=1) (v:=?_) rfl (by kernel_rfl) (by kernel_rfl) (by kernel_rfl) (fun _ _ _ h=>h) (Or.inl ⟨by rfl,?_⟩) hS ?_
    rotate_left
    · (intro w hSw;(try dsimp only at hSw);go_simp;(try with_reducible rfl))
    rotate_left
    simp only [Act.put,zq0,zq1,zq2,zq3,zq4,zq5]
    refine wpAnyH_take (i:=2) (v:=?_) rfl (by kernel_rfl) (by kernel_rfl) (by kernel_rfl) (fun _ _ _ h=>h) (Or.inl ⟨by rfl,?_⟩) hS ?_
    rotate_left
    · (intro w hSw;(try dsimp only at hSw);go_simp;(try with_reducible rfl))
    rotate_left
    simp only [Act.put,zq0,zq1,zq2,zq3,zq4,zq5]
    refine wpAnyH_take (i:=3) (v:=?_) rfl (by kernel_rfl) (by kernel_rfl) (by kernel_rfl) (fun _ _ _ h=>h) (Or.inl ⟨by rfl,?_⟩) hS ?_
    rotate_left
    · (intro w hSw;(try dsimp only at hSw);go_simp;(try with_reducible rfl))
    rotate_left
    simp only [Act.put,zq0,zq1,zq2,zq3,zq4,zq5]
    clear e1
    rcases Bool.eq_false_or_eq_true ((st : Int) != 2) with e1 | e1
    · have hb : Hid (blkDone ls so st sq = false):=by show _ = _;rw [HBD.out,E1.out,decide_eq_false (show ¬ st = 2 by simp at e1;omega)];rfl
      refine wpAnyH_take (i:=4) (v:=?_) rfl (by kernel_rfl) (by kernel_rfl) (by kernel_rfl) (fun _ _ _ h=>h) (Or.inl ⟨by rfl,?_⟩) hS ?_
      rotate_left
      · (intro w hSw;(try dsimp only at hSw);go_simp;(try with_reducible rfl))
      rotate_left
      simp only [Act.put,zq0,zq1,zq2,zq3,zq4,zq5]
      refine wpAnyH_take (i:=5) (v:=?_) rfl (by kernel_rfl) (by kernel_rfl) (by kernel_rfl) (fun _ _ _ h=>h) (Or.inl ⟨by rfl,?_⟩) hS ?_
      rotate_left
      · (intro w hSw;(try dsimp only at hSw);go_simp;(try with_reducible rfl))
      rotate_left
      simp only [Act.put,zq0,zq1,zq2,zq3,zq4,zq5]
      refine wpAnyH_take (i:=6) (v:=?_) rfl (by kernel_rfl) (by kernel_rfl) (by kernel_rfl) (fun _ _ _ h=>h) (Or.inr ⟨by rfl,?_⟩) hS ?_
      rotate_left
      · rfl
      rotate_left
      simp only [Act.put,zq0,zq1,zq2,zq3,zq4,zq5]
      refine wpAnyH_take (i:=7) (v:=?_) rfl (by kernel_rfl) (by kernel_rfl) (by kernel_rfl) (fun _ _ _ h=>h) (Or.inr ⟨by rfl,?_⟩) hS ?_
      rotate_left
      · rfl
      rotate_left
      simp only [Act.put,zq0,zq1,zq2,zq3,zq4,zq5]
      refine wpAnyH_take (i:=8) (v:=?_) rfl (by kernel_rfl) (by kernel_rfl) (by kernel_rfl) (fun _ _ _ h=>h) (Or.inr ⟨by rfl,?_⟩) hS ?_
      rotate_left
      · rfl
      rotate_left
      simp only [Act.put,zq0,zq1,zq2,zq3,zq4,zq5]
      refine wpAnyH_take (i:=9) (v:=?_) rfl (by kernel_rfl) (by kernel_rfl) (by kernel_rfl) (fun _ _ _ h=>h) (Or.inr ⟨by rfl,?_⟩) hS ?_
      rotate_left
      · rfl
      rotate_left
      simp only [Act.put,zq0,zq1,zq2,zq3,zq4,zq5]
      refine wpAnyH_take (i:=10) (v:=?_) rfl (by kernel_rfl) (by kernel_rfl) (by kernel_rfl) (fun _ _ _ h=>h) (Or.inr ⟨by rfl,?_⟩) hS ?_
      rotate_left
      · rfl
      rotate_left
      simp only [Act.put,zq0,zq1,zq2,zq3,zq4,zq5]
      refine wpAnyH_take (i:=11) (v:=?_) rfl (by kernel_rfl) (by kernel_rfl) (by kernel_rfl) (fun _ _ _ h=>h) (Or.inr ⟨by rfl,?_⟩) hS ?_
      rotate_left
      · rfl
      rotate_left
      simp only [Act.put,zq0,zq1,zq2,zq3,zq4,zq5]
      refine wpAnyH_take (i:=12) (v:=?_) rfl (by kernel_rfl) (by kernel_rfl) (by kernel_rfl) (fun _ _ _ h=>h) (Or.inr ⟨by rfl,?_⟩) hS ?_
      rotate_left
      · rfl
      rotate_left
      simp only [Act.put,zq0,zq1,zq2,zq3,zq4,zq5]
      refine wpAnyH_take (i:=13) (v:=?_) rfl (by kernel_rfl) (by kernel_rfl) (by kernel_rfl) (fun _ _ _ h=>h) (Or.inr ⟨by rfl,?_⟩) hS ?_
      rotate_left
      · rfl
      rotate_left
      simp only [Act.put,zq0,zq1,zq2,zq3,zq4,zq5]
      refine wpAnyH_take (i:=14) (v:=?_) rfl (by kernel_rfl) (by kernel_rfl) (by kernel_rfl) (fun _ _ _ h=>h) (Or.inr ⟨by rfl,?_⟩) hS ?_
      rotate_left
      · rfl
      rotate_left
      simp only [Act.put,zq0,zq1,zq2,zq3,zq4,zq5]
      refine wpAnyH_take (i:=15) (v:=?_) rfl (by kernel_rfl) (by kernel_rfl) (by kernel_rfl) (fun _ _ _ h=>h) (Or.inr ⟨by rfl,?_⟩) hS ?_
      rotate_left
      · rfl
      rotate_left
      simp only [Act.put,zq0,zq1,zq2,zq3,zq4,zq5]
      refine wpAnyH_take (i:=16) (v:=?_) rfl (by kernel_rfl) (by kernel_rfl) (by kernel_rfl) (fun _ _ _ h=>h) (Or.inr ⟨by rfl,?_⟩) hS ?_
      rotate_left
      · rfl
      rotate_left
      simp only [Act.put,zq0,zq1,zq2,zq3,zq4,zq5]
      refine wpAnyH_take (i:=17) (v:=?_) rfl (by kernel_rfl) (by kernel_rfl) (by kernel_rfl) (fun _ _ _ h=>h) (Or.inr ⟨by rfl,?_⟩) hS ?_
      rotate_left
      · rfl
      rotate_left
      simp only [Act.put,zq0,zq1,zq2,zq3,zq4,zq5]
      refine wpAnyH_take (i:=18) (v:=?_) rfl (by kernel_rfl) (by kernel_rfl) (by kernel_rfl) (fun _ _ _ h=>h) (Or.inl ⟨by rfl,?_⟩) hS ?_
      rotate_left
      · (intro w hSw;(try dsimp only at hSw);go_simp;(try with_reducible rfl))
      rotate_left
      simp only [Act.put,zq0,zq1,zq2,zq3,zq4,zq5]
      refine wpAnyH_take (i:=19) (v:=?_) rfl (by kernel_rfl) (by kernel_rfl) (by kernel_rfl) (fun _ _ _ h=>h) (Or.inl ⟨by rfl,?_⟩) hS ?_
      rotate_left
      · (intro w hSw;(try dsimp only at hSw);go_simp;(try with_reducible rfl))
      rotate_left
      simp only [Act.put,zq0,zq1,zq2,zq3,zq4,zq5]
      refine wpAnyH_done (by kernel_rfl) ?_ _
      have HT:=Lib.hid (Ext.trans tW hS.1)
      have hdv:=HRET.out hb.out
      clear hS
      subst hdv
      go_wp2
      go_ret
      exact ⟨rfl,HT.out⟩
    have E2 : Hid (decide (st = 2) = true):=decide_eq_true (by simp at e1;omega)
    refine wpAnyH_take (i:=4) (v:=?_) rfl (by kernel_rfl) (by kernel_rfl) (by kernel_rfl) (fun _ _ _ h=>h) (Or.inl ⟨by rfl,?_⟩) hS ?_
    rotate_left
    · (intro w hSw;(try dsimp only at hSw);go_simp;(try with_reducible rfl))
    rotate_left
    simp only [Act.put,zq0,zq1,zq2,zq3,zq4,zq5]
    refine wpAnyH_take (i:=5) (v:=?_) rfl (by kernel_rfl) (by kernel_rfl) (by kernel_rfl) (fun _ _ _ h=>h) (Or.inl ⟨by rfl,?_⟩) hS ?_
    rotate_left
    · (intro w hSw;(try dsimp only at hSw);go_simp;(try with_reducible rfl))
    rotate_left
    simp only [Act.put,zq0,zq1,zq2,zq3,zq4,zq5]
    refine wpAnyH_take (i:=6) (v:=?_) rfl (by kernel_rfl) (by kernel_rfl) (by kernel_rfl) (fun _ _ _ h=>h) (Or.inl ⟨by rfl,?_⟩) hS ?_
    rotate_left
    · (intro w hSw;(try dsimp only at hSw);go_simp;(try with_reducible rfl))
    rotate_left
    simp only [Act.put,zq0,zq1,zq2,zq3,zq4,zq5]
    clear e1
    cases so with
    | true=>
      have hb : Hid (blkDone ls true st sq = true):=by show _ = _;rw [HBD.out,E1.out,E2.out];rfl
      refine wpAnyH_take (i:=7) (v:=?_) rfl (by kernel_rfl) (by kernel_rfl) (by kernel_rfl) (fun _ _ _ h=>h) (Or.inl ⟨by rfl,?_⟩) hS ?_
      rotate_left
      · (intro w hSw;(try dsimp only at hSw);go_simp;(try with_reducible rfl))
      rotate_left
      simp only [Act.put,zq0,zq1,zq2,zq3,zq4,zq5]
      refine wpAnyH_take (i:=8) (v:=?_) rfl (by kernel_rfl) (by kernel_rfl) (by kernel_rfl) (fun _ _ _ h=>h) (Or.inl ⟨by rfl,?_⟩) hS ?_
      rotate_left
      · (intro w hSw;(try dsimp only at hSw);go_simp;(try with_reducible rfl))
      rotate_left
      simp only [Act.put,zq0,zq1,zq2,zq3,zq4,zq5]
      refine wpAnyH_take (i:=9) (v:=?_) rfl (by kernel_rfl) (by kernel_rfl) (by kernel_rfl) (fun _ _ _ h=>h) (Or.inr ⟨by rfl,?_⟩) hS ?_
      rotate_left
      · rfl
      rotate_left
      simp only [Act.put,zq0,zq1,zq2,zq3,zq4,zq5]
      refine wpAnyH_take (i:=10) (v:=?_) rfl (by kernel_rfl) (by kernel_rfl) (by kernel_rfl) (fun _ _ _ h=>h) (Or.inr ⟨by rfl,?_⟩) hS ?_
      rotate_left
      · rfl
      rotate_left
      simp only [Act.put,zq0,zq1,zq2,zq3,zq4,zq5]
      refine wpAnyH_take (i:=11) (v:=?_) rfl (by kernel_rfl) (by kernel_rfl) (by kernel_rfl) (fun _ _ _ h=>h) (Or.inr ⟨by rfl,?_⟩) hS ?_
      rotate_left
      · rfl
      rotate_left
      simp only [Act.put,zq0,zq1,zq2,zq3,zq4,zq5]
      refine wpAnyH_take (i:=12) (v:=?_) rfl (by kernel_rfl) (by kernel_rfl) (by kernel_rfl) (fun _ _ _ h=>h) (Or.inr ⟨by rfl,?_⟩) hS ?_
      rotate_left
      · rfl
      rotate_left
      simp only [Act.put,zq0,zq1,zq2,zq3,zq4,zq5]
      refine wpAnyH_take (i:=13) (v:=?_) rfl (by kernel_rfl) (by kernel_rfl) (by kernel_rfl) (fun _ _ _ h=>h) (Or.inr ⟨by rfl,?_⟩) hS ?_
      rotate_left
      · rfl
      rotate_left
      simp only [Act.put,zq0,zq1,zq2,zq3,zq4,zq5]
      refine wpAnyH_take (i:=14) (v:=?_) rfl (by kernel_rfl) (by kernel_rfl) (by kernel_rfl) (fun _ _ _ h=>h) (Or.inr ⟨by rfl,?_⟩) hS ?_
      rotate_left
      · rfl
      rotate_left
      simp only [Act.put,zq0,zq1,zq2,zq3,zq4,zq5]
      refine wpAnyH_take (i:=15) (v:=?_) rfl (by kernel_rfl) (by kernel_rfl) (by kernel_rfl) (fun _ _ _ h=>h) (Or.inr ⟨by rfl,?_⟩) hS ?_
      rotate_left
      · rfl
      rotate_left
      simp only [Act.put,zq0,zq1,zq2,zq3,zq4,zq5]
      refine wpAnyH_take (i:=16) (v:=?_) rfl (by kernel_rfl) (by kernel_rfl) (by kernel_rfl) (fun _ _ _ h=>h) (Or.inr ⟨by rfl,?_⟩) hS ?_
      rotate_left
      · rfl
      rotate_left
      simp only [Act.put,zq0,zq1,zq2,zq3,zq4,zq5]
      refine wpAnyH_take (i:=17) (v:=?_) rfl (by kernel_rfl) (by kernel_rfl) (by kernel_rfl) (fun _ _ _ h=>h) (Or.inl ⟨by rfl,?_⟩) hS ?_
      rotate_left
      · (intro w hSw;(try dsimp only at hSw);go_simp;(try with_reducible rfl))
      rotate_left
      simp only [Act.put,zq0,zq1,zq2,zq3,zq4,zq5]
      refine wpAnyH_take (i:=18) (v:=?_) rfl (by kernel_rfl) (by kernel_rfl) (by kernel_rfl) (fun _ _ _ h=>h) (Or.inl ⟨by rfl,?_⟩) hS ?_
      rotate_left
      · (intro w hSw;(try dsimp only at hSw);go_simp;(try with_reducible rfl))
      rotate_left
      simp only [Act.put,zq0,zq1,zq2,zq3,zq4,zq5]
      refine wpAnyH_take (i:=19) (v:=?_) rfl (by kernel_rfl) (by kernel_rfl) (by kernel_rfl) (fun _ _ _ h=>h) (Or.inl ⟨by rfl,?_⟩) hS ?_
      rotate_left
      · (intro w hSw;(try dsimp only at hSw);go_simp;(try with_reducible rfl))
      rotate_left
      simp only [Act.put,zq0,zq1,zq2,zq3,zq4,zq5]
      refine wpAnyH_done (by kernel_rfl) ?_ _
      have HT:=Lib.hid (Ext.trans HB1.out hS.1)
      have HA' : Hid (∀ i,i < j + 1 → DoneAt ls _ (fS f) (fQ f) i):=HNXT.out hb.out
      clear hS
      go_wp2
      go_roundw
      case rel=>exact ⟨j + 1,HLT.out,by first | exact round_same HWJ | go_num,HT.out,HA'⟩
      case measure=>first | exact round_less HWJ HLT.out | (have h:=HLT.out;simp [intOf];omega)
    | false=>
    refine wpAnyH_take (i:=7) (v:=?_) rfl (by kernel_rfl) (by kernel_rfl) (by kernel_rfl) (fun _ _ _ h=>h) (Or.inl ⟨by rfl,?_⟩) hS ?_
    rotate_left
    · (intro w hSw;(try dsimp only at hSw);go_simp;(try with_reducible rfl))
    rotate_left
    simp only [Act.put,zq0,zq1,zq2,zq3,zq4,zq5]
    refine wpAnyH_take (i:=8) (v:=?_) rfl (by kernel_rfl) (by kernel_rfl) (by kernel_rfl) (fun _ _ _ h=>h) (Or.inl ⟨by rfl,?_⟩) hS ?_
    rotate_left
    · (intro w hSw;(try dsimp only at hSw);go_simp;(try with_reducible rfl))
    rotate_left
    simp only [Act.put,zq0,zq1,zq2,zq3,zq4,zq5]
    refine wpAnyH_take (i:=9) (v:=?_) rfl (by kernel_rfl) (by kernel_rfl) (by kernel_rfl) (fun _ _ _ h=>h) (Or.inl ⟨by rfl,?_⟩) hS ?_
    rotate_left
    · (intro w hSw;(try dsimp only at hSw);go_simp;(try with_reducible rfl))
    rotate_left
    simp only [Act.put,zq0,zq1,zq2,zq3,zq4,zq5]
    refine wpAnyH_take (i:=10) (v:=?_) rfl (by kernel_rfl) (by kernel_rfl) (by kernel_rfl) (fun _ _ _ h=>h) (Or.inl ⟨by rfl,?_⟩) hS ?_
    rotate_left
    · (intro w hSw;(try dsimp only at hSw);go_simp;(try with_reducible rfl))
    rotate_left
    simp only [Act.put,zq0,zq1,zq2,zq3,zq4,zq5]
    refine wpAnyH_take (i:=11) (v:=?_) rfl (by kernel_rfl) (by kernel_rfl) (by kernel_rfl) (fun _ _ _ h=>h) (Or.inl ⟨by rfl,?_⟩) hS ?_
    rotate_left
    · (intro w hSw;(try dsimp only at hSw);go_simp;(try with_reducible rfl))
    rotate_left
    simp only [Act.put,zq0,zq1,zq2,zq3,zq4,zq5]
    refine wpAnyH_take (i:=12) (v:=?_) rfl (by kernel_rfl) (by kernel_rfl) (by kernel_rfl) (fun _ _ _ h=>h) (Or.inl ⟨by rfl,?_⟩) hS ?_
    rotate_left
    · (intro w hSw;(try dsimp only at hSw);go_simp;(try with_reducible rfl))
    rotate_left
    simp only [Act.put,zq0,zq1,zq2,zq3,zq4,zq5]
    refine wpAnyH_take (i:=13) (v:=?_) rfl (by kernel_rfl) (by kernel_rfl) (by kernel_rfl) (fun _ _ _ h=>h) (Or.inl ⟨by rfl,?_⟩) hS ?_
    rotate_left
    · (intro w hSw;(try dsimp only at hSw);go_simp;(try with_reducible rfl))
    rotate_left
    simp only [Act.put,zq0,zq1,zq2,zq3,zq4,zq5]
    refine wpAnyH_take (i:=14) (v:=?_) rfl (by kernel_rfl) (by kernel_rfl) (by kernel_rfl) (fun _ _ _ h=>h) (Or.inl ⟨by rfl,?_⟩) hS ?_
    rotate_left
    · (intro w hSw;(try dsimp only at hSw);go_simp;(try with_reducible rfl))
    rotate_left
    simp only [Act.put,zq0,zq1,zq2,zq3,zq4,zq5]
    refine wpAnyH_ready (rs:=[15]) (by kernel_rfl) (by simp) ?_
    refine AllReadyH.cons rfl (fun K hK=>?_) AllReadyH.nil
    rw [if_pos (by rfl)]
    go_simp
    refine (HSU.out _ _ _ (HR.out.below (Ext.trans tW hS.1))).mono ?_
    rintro e w3 ⟨rfl,k3⟩
    refine hK.out _ _ (HS.out _ (Ext.trans hS.1 k3)) (fun hS'=>?_)
    clear hK K hS k3
    have hS:=hS'
    clear hS'
    try simp only [Act.put,zq0,zq1,zq2,zq3,zq4,zq5]
    obtain ⟨sv,hsv⟩ : ∃ z : Bool,z = sureB ls sq false:=⟨_,rfl⟩
    have HBD2 : Hid (blkDone ls false st sq = sv):=by show _ = _;rw [HBD.out,E1.out,E2.out,hsv];rfl
    rw [← hsv]
    clear hsv
    cases sv with
    | true=>
      have hb : Hid (blkDone ls false st sq = true):=HBD2.out
      refine wpAnyH_take (i:=16) (v:=?_) rfl (by kernel_rfl) (by kernel_rfl) (by kernel_rfl) (fun _ _ _ h=>h) (Or.inl ⟨by rfl,?_⟩) hS ?_
      rotate_left
      · (intro w hSw;(try dsimp only at hSw);go_simp;(try with_reducible rfl))
      rotate_left
      simp only [Act.put,zq0,zq1,zq2,zq3,zq4,zq5]
      refine wpAnyH_take (i:=17) (v:=?_) rfl (by kernel_rfl) (by kernel_rfl) (by kernel_rfl) (fun _ _ _ h=>h) (Or.inl ⟨by rfl,?_⟩) hS ?_
      rotate_left
      · (intro w hSw;(try dsimp only at hSw);go_simp;(try with_reducible rfl))
      rotate_left
      simp only [Act.put,zq0,zq1,zq2,zq3,zq4,zq5]
      refine wpAnyH_take (i:=18) (v:=?_) rfl (by kernel_rfl) (by kernel_rfl) (by kernel_rfl) (fun _ _ _ h=>h) (Or.inl ⟨by rfl,?_⟩) hS ?_
      rotate_left
      · (intro w hSw;(try dsimp only at hSw);go_simp;(try with_reducible rfl))
      rotate_left
      simp only [Act.put,zq0,zq1,zq2,zq3,zq4,zq5]
      refine wpAnyH_take (i:=19) (v:=?_) rfl (by kernel_rfl) (by kernel_rfl) (by kernel_rfl) (fun _ _ _ h=>h) (Or.inl ⟨by rfl,?_⟩) hS ?_
      rotate_left
      · (intro w hSw;(try dsimp only at hSw);go_simp;(try with_reducible rfl))
      rotate_left
      simp only [Act.put,zq0,zq1,zq2,zq3,zq4,zq5]
      refine wpAnyH_done (by kernel_rfl) ?_ _
      have HT:=Lib.hid (Ext.trans HB1.out hS.1)
      have HA' : Hid (∀ i,i < j + 1 → DoneAt ls _ (fS f) (fQ f) i):=HNXT.out hb.out
      clear hS
      go_wp2
      go_roundw
      case rel=>exact ⟨j + 1,HLT.out,by first | exact round_same HWJ | go_num,HT.out,HA'⟩
      case measure=>first | exact round_less HWJ HLT.out | (have h:=HLT.out;simp [intOf];omega)
    | false=>
      have hb : Hid (blkDone ls false st sq = false):=HBD2.out
      refine wpAnyH_take (i:=16) (v:=?_) rfl (by kernel_rfl) (by kernel_rfl) (by kernel_rfl) (fun _ _ _ h=>h) (Or.inl ⟨by rfl,?_⟩) hS ?_
      rotate_left
      · (intro w hSw;(try dsimp only at hSw);go_simp;(try with_reducible rfl))
      rotate_left
      simp only [Act.put,zq0,zq1,zq2,zq3,zq4,zq5]
      refine wpAnyH_take (i:=17) (v:=?_) rfl (by kernel_rfl) (by kernel_rfl) (by kernel_rfl) (fun _ _ _ h=>h) (Or.inl ⟨by rfl,?_⟩) hS ?_
      rotate_left
      · (intro w hSw;(try dsimp only at hSw);go_simp;(try with_reducible rfl))
      rotate_left
      simp only [Act.put,zq0,zq1,zq2,zq3,zq4,zq5]
      refine wpAnyH_take (i:=18) (v:=?_) rfl (by kernel_rfl) (by kernel_rfl) (by kernel_rfl) (fun _ _ _ h=>h) (Or.inl ⟨by rfl,?_⟩) hS ?_
      rotate_left
      · (intro w hSw;(try dsimp only at hSw);go_simp;(try with_reducible rfl))
      rotate_left
      simp only [Act.put,zq0,zq1,zq2,zq3,zq4,zq5]
      refine wpAnyH_take (i:=19) (v:=?_) rfl (by kernel_rfl) (by kernel_rfl) (by kernel_rfl) (fun _ _ _ h=>h) (Or.inl ⟨by rfl,?_⟩) hS ?_
      rotate_left
      · (intro w hSw;(try dsimp only at hSw);go_simp;(try with_reducible rfl))
      rotate_left
      simp only [Act.put,zq0,zq1,zq2,zq3,zq4,zq5]
      refine wpAnyH_done (by kernel_rfl) ?_ _
      have HT:=Lib.hid (Ext.trans tW hS.1)
      have hdv:=HRET.out hb.out
      clear hS
      subst hdv
      go_wp2
      go_ret
      exact ⟨rfl,HT.out⟩
  · have HALL : Hid (dv = true):=by
     show _ = _
     rw [HD1.out]
     refine (blksDone_iff HLE.out).2 fun i hi=>HA.out i (by have:=HNS.out;omega)
    have t1:=Ext.trans HTW.out bj
    have hb:=HALL.out
    subst hb
    go_wp2
    go_ret
    exact ⟨rfl,t1⟩
end Go.Proofs.Ythapabjlhooglaa
namespace Go.Proofs.Ythapabjlhooglaa
open Go Go.RowKit Go.Maps
set_option linter.unusedSimpArgs false
set_option linter.unusedVariables false
def partF (p : FlTy.T → Bool → Bool) : List FlTy.T → Bool → List FlTy.T × List FlTy.T
 | [],_=>([],[])
 | f :: fs,b=>if p f b = true then (f :: (partF p fs false).1,(partF p fs false).2) else ((partF p fs false).1,f :: (partF p fs false).2)
theorem partF_step (p : FlTy.T → Bool → Bool) : ∀ (xs : List FlTy.T) (f : FlTy.T) (b : Bool),partF p (xs ++ [f]) b = if p f (if xs = [] then b else false) = true then ((partF p xs b).1 ++ [f],(partF p xs b).2) else ((partF p xs b).1,(partF p xs b).2 ++ [f])
 | [],f,b=>by simp [partF]
 | x :: xs,f,b=>by
   rw [List.cons_append]
   unfold partF
   rw [partF_step p xs f false]
   rw [if_neg (List.cons_ne_nil x xs),ite_self]
   by_cases h1 : p x b = true
   · rw [if_pos h1,if_pos h1]
     split <;> simp
   · rw [if_neg h1,if_neg h1]
     split <;> simp
theorem partF_len (p : FlTy.T → Bool → Bool) : ∀ (xs : List FlTy.T) (b : Bool),(partF p xs b).1.length + (partF p xs b).2.length = xs.length
 | [],_=>rfl
 | x :: xs,b=>by
   unfold partF
   have h:=partF_len p xs false
   split
   · simp only [List.length_cons];omega
   · simp only [List.length_cons];omega
def Row8 (W : World) (S : Nat → Prop) (wr : World) (base : Nat) (v : Value) (xs : List FlTy.T) : Prop:=
 ∃ ess : List (List Value),(∀ es ∈ ess,es.length = 8) ∧ ess.length = xs.length ∧ (∀ i (h : i < xs.length) (h' : i < ess.length),RdIn W S FlTy xs[i] ess[i]) ∧ wr.ownsRow base 67 8 v xs.length ess.flatten
section
variable {W wr w' : World} {S : Nat → Prop} {base : Nat} {v : Value} {xs : List FlTy.T}
theorem Row8.nil : Row8 W S wr base (.slice none 0 0) []:=⟨[],by simp,rfl,fun i h=>absurd h (by simp),by simp,.inl ⟨rfl,rfl⟩⟩
theorem Row8.slice (h : Row8 W S wr base v xs) : ∃ A c,v = .slice A xs.length c:=by
 obtain ⟨ess,_,_,_,h4⟩:=h
 exact own_form h4
theorem Row8.lt (h : Row8 W S wr base v xs) : ∀ r,v.ownBlock = some r → r < wr.heap.size:=by
 obtain ⟨ess,_,_,_,h4⟩:=h
 exact fun r hr=>own_lt h4 hr
theorem Row8.le (h : Row8 W S wr base v xs) : ∀ r,v.ownBlock = some r → base ≤ r:=by
 obtain ⟨ess,_,_,_,h4⟩:=h
 exact fun r hr=>own_block h4 hr
theorem Row8.keep (h : Row8 W S wr base v xs) (hf : ∀ r,v.ownBlock = some r → w'.heap[r]? = wr.heap[r]?) : Row8 W S w' base v xs:=by
 obtain ⟨ess,h1,h2,h3,h4⟩:=h
 exact ⟨ess,h1,h2,h3,own_frame h4 hf⟩
theorem Row8.next (h : Row8 W S wr base v xs) (hb : Below wr.heap.size wr w') : Row8 W S w' base v xs:=h.keep fun r hr=>hb.block r (h.lt r hr)
theorem Row8.rd (h : Row8 W S wr base v xs) (hb : Below W.heap.size W wr) (hz : xs.length * 128 ≤ 140737488355328) : RdIn wr (fun _=>True) (.sl FlTy) xs [v]:=by
 obtain ⟨ess,_,h2,h3,h4⟩:=h
 exact rdin_own8 (T:=S) h2 h4 (fun i h5 h6=>(h3 i h5 h6).below hb) hz
end
section
variable {P : Program}
theorem wpList_push8 {ops : Array Oper} {rest : List Oper} {o : Oper} {a : Act} {Q : Exit → Act → World → Prop} {W : World} {S : Nat → Prop} (w : World) (hgd : o.guard = none) (s x : Operand) (t : TypeId)
 (ho : o.op = .call { callee:=.builtin .append,args:=#[s,x],argTypes:=#[t,t] })
 (base : Nat) (i : TypeInfo) (z : Value) (ht : P.underlying t = some (.slice 67)) (hi : P.info? 67 = some i) (hz : i.zero = some z)
 (hsize : i.size = 8) (hby : i.bytes = 128) (hzs : z.cells.size = 8)
 (v : Value) (xs : List FlTy.T) (hs : a.eval s = v) (hrow : Row8 W S w base v xs)
 (A : Option Addr) (c : Nat) (news : List Value) (hx : a.eval x = .slice A 1 c) (hr : Rd w A news) (y : FlTy.T) (hn : news.length = 8) (hy : RdIn W S FlTy y news)
 (h63 : xs.length + 1 ≤ maxLen) (hbytes : (xs.length + 1) * 128 ≤ 140737488355328) (hbase : base ≤ w.heap.size)
 (h : ∀ v' w',Row8 W S w' base v' (xs ++ [y]) → w.grownBy w' v.ownBlock → (v'.ownBlock = v.ownBlock ∨ v'.ownBlock = some w.heap.size) → wpList P ops Q rest (a.put o.dst v') w') : wpList P ops Q (o :: rest) a w:=by
 obtain ⟨ess,h1,h2,h3,h4⟩:=hrow
 refine wpList_append_rd w hgd s x t ho base 67 i z 8 128 ht hi hz hsize hby hzs (by decide) v _ _ hs h4 A 1 c news hx (by omega) hr (RdIn.plain _ hy) h63 hbytes hbase ?_
 intro v' w' k1 k2 k3
 refine h v' w' ⟨ess ++ [news],?_,by simp [h2],fun j h5 h6=>?_,?_⟩ k2 k3
 · intro es he
   rcases List.mem_append.1 he with he | he
   · exact h1 es he
   · rw [List.mem_singleton] at he;rw [he];exact hn
 · rw [List.length_append,List.length_singleton] at h5
   by_cases hj : j < xs.length
   · rw [List.getElem_append_left hj,List.getElem_append_left (by omega)]
     exact h3 j hj (by omega)
   · have hj2 : j = xs.length:=by omega
     subst hj2
     simp only [List.getElem_append_right (Nat.le_refl _),← h2,Nat.sub_self,List.getElem_singleton]
     rw [show (xs ++ [y])[ess.length]'(by rw [List.length_append,List.length_singleton];omega) = y from by simp [h2]]
     exact hy
 · rw [List.length_append,List.length_singleton,List.flatten_append]
   simpa using k1
end
def Apart2 (v u : Value) : Prop:=∀ r,v.ownBlock = some r → u.ownBlock ≠ some r
def PartIs (W : World) (S : Nat → Prop) (base : Nat) (p : FlTy.T → Bool → Bool) (fs : List FlTy.T) (e : Ending) (w' : World) : Prop:=∃ v u,e = .returned (.tuple #[v,u]) ∧ Row8 W S w' base v (partF p fs true).1 ∧ Row8 W S w' base u (partF p fs true).2
set_option maxRecDepth 100000 in
set_option maxHeartbeats 8000000 in
theorem part_any (S : Nat → Prop) (fs : List FlTy.T) (N d : Nat) (B : Option Addr) (hN : fs.length = N) (hN9 : N ≤ 1000) (p : FlTy.T → Bool → Bool) (jv : Array Value) (w : World) (hr : RdIn w S (.sl FlTy) fs [.slice B N d])
 (hp : ∀ (wr : World) (g : FlTy.T) (b : Bool) (Ab : Option Addr) (cb : Nat) (As : Option Addr) (cs : Nat) (Aq : Option Addr) (cq : Nat) (Ax : Option Addr) (cx : Nat),Below w.heap.size w wr → g ∈ fs → RdIn wr S (.sl .byte) (fS g) [.slice As (fS g).length cs] → RdIn wr S (.sl .u32) (fQ g) [.slice Aq (fQ g).length cq] →
   Calls Try.prog 61 #[.agg jv,.agg #[.int .i64 (fN g),.int .u8 (kI g),.int .i64 (fA g),.int .i64 (fM g),.slice Ab (fD g).length cb,.slice As (fS g).length cs,.slice Aq (fQ g).length cq,.slice Ax (fB g).length cx],.bool b] wr fun e w'=>e = .returned (.bool (p g b)) ∧ Below wr.heap.size wr w') :
 Calls Try.prog 60 #[.slice B N d,.func (.func 61) #[.agg jv] #[]] w fun e w'=>PartIs w S w.heap.size p fs e w' ∧ Below w.heap.size w w':=by
 obtain ⟨ig,hig,hg0,hg1,hg2⟩:=minfo_flight
 have HP:=Lib.hid hp
 have HR:=Lib.hid hr
 have HNL:=Lib.hid hN
 have HN9:=Lib.hid hN9
 clear hp hr hN hN9
 go_enter Try.func60,Try.ntmps60
 go_upto_region 1 with fail
 obtain ⟨W,hW⟩ : ∃ z : World,z = w:=⟨_,rfl⟩
 have b0 : Below W.heap.size W w:=by rw [hW];exact Below.refl _ _
 have HWW:=Lib.hid hW
 rw [← hW] at HR
 clear hW
 go_wp2
 go_loopw [4,5,10] (fun v u i wr=>∃ (k : Nat),k ≤ N ∧ i = .int .i64 (k : Int) ∧ Below W.heap.size W wr ∧ Hid (Row8 W S wr W.heap.size v (partF p (fs.take k) true).1 ∧ Row8 W S wr W.heap.size u (partF p (fs.take k) true).2 ∧ Apart2 v u)) (fun _ _ i _=>N - (intOf i).toNat)
 case atStart=>exact ⟨0,by omega,rfl,b0,⟨Row8.nil,Row8.nil,fun r h=>by cases h⟩⟩
 case round=>
  obtain ⟨k,hk,rfl,b1,HO⟩:=hrel
  clear b0
  have bw : Below w.heap.size w wr:=by have:=HWW.out;subst this;exact b1
  by_cases hlt : k < N
  · have hlf : k < fs.length:=by have:=HNL.out;omega
    obtain ⟨A1,c1,e1⟩:=HO.out.1.slice
    obtain ⟨A2,c2,e2⟩:=HO.out.2.1.slice
    have hab:=partF_len p (fs.take k) true
    have htl : (fs.take k).length = k:=by rw [List.length_take];omega
    rw [htl] at hab
    have HSTP:=partF_step p (fs.take k) (fs[k]) true
    have HTK:=Lib.hid (show fs.take (k + 1) = fs.take k ++ [fs[k]] from List.take_succ_eq_append_getElem hlf)
    obtain ⟨bf,hbf⟩ : ∃ z : Bool,z = ((k : Int) == 0):=⟨_,rfl⟩
    have hbf2 : (if fs.take k = [] then true else false) = bf:=by
     rw [hbf]
     by_cases h0 : k = 0
     · subst h0;rfl
     · rw [if_neg (fun h=>h0 (by rw [← htl,h];rfl))]
       exact (beq_eq_false_iff_ne.2 (by omega)).symm
    rw [hbf2] at HSTP
    obtain ⟨b,off,Ab,cb,As,cs,Aq,cq,Ax,cx,rfl,q0,q1,q2,q3,q4,q5,q6,q7,hi,r1,r2,r3,r4⟩:=fl_at (HR.out.below b1) hlf
    have hmem : fs[k] ∈ fs:=List.getElem_mem _
    obtain ⟨bb,off',Ab',cb',As',cs',Aq',cq',Ax',cx',eB,p0,p1,p2,p3,p4,p5,p6,p7,hi',s1,s2,s3,s4⟩:=fl_at HR.out hlf
    have HGE : Hid (RdIn W S FlTy fs[k] (#[.int .i64 (fN fs[k]),.int .u8 (kI fs[k]),.int .i64 (fA fs[k]),.int .i64 (fM fs[k]),.slice Ab (fD fs[k]).length cb,.slice As (fS fs[k]).length cs,.slice Aq (fQ fs[k]).length cq,.slice Ax (fB fs[k]).length cx] : Array Value).toList):=by
     injection eB with eB
     injection eB with eB1 eB2 _
     subst eB1 eB2
     have f4:=(b1.cell (p:=⟨b,off + k * 8 + 4,none⟩) (block_lt_of_cell p4)).trans p4
     have f5:=(b1.cell (p:=⟨b,off + k * 8 + 5,none⟩) (block_lt_of_cell p5)).trans p5
     have f6:=(b1.cell (p:=⟨b,off + k * 8 + 6,none⟩) (block_lt_of_cell p6)).trans p6
     have f7:=(b1.cell (p:=⟨b,off + k * 8 + 7,none⟩) (block_lt_of_cell p7)).trans p7
     rw [q4] at f4
     rw [q5] at f5
     rw [q6] at f6
     rw [q7] at f7
     obtain ⟨rfl,_,rfl⟩ : Ab = Ab' ∧ True ∧ cb = cb':=by injection f4 with f4;injection f4 with a1 a2 a3;exact ⟨a1,trivial,a3⟩
     obtain ⟨rfl,_,rfl⟩ : As = As' ∧ True ∧ cs = cs':=by injection f5 with f4;injection f4 with a1 a2 a3;exact ⟨a1,trivial,a3⟩
     obtain ⟨rfl,_,rfl⟩ : Aq = Aq' ∧ True ∧ cq = cq':=by injection f6 with f4;injection f4 with a1 a2 a3;exact ⟨a1,trivial,a3⟩
     obtain ⟨rfl,_,rfl⟩ : Ax = Ax' ∧ True ∧ cx = cx':=by injection f7 with f4;injection f4 with a1 a2 a3;exact ⟨a1,trivial,a3⟩
     exact fl_mk hi s1 s2 s3 s4
    clear p0 p1 p2 p3 p4 p5 p6 p7 hi' s1 s2 s3 s4 eB r1 r4 hi
    have bA:=Ext.alloc (Below.refl wr.heap.size wr) (.cells #[.int .i64 (fN fs[k]),.int .u8 (kI fs[k]),.int .i64 (fA fs[k]),.int .i64 (fM fs[k]),.slice Ab (fD fs[k]).length cb,.slice As (fS fs[k]).length cs,.slice Aq (fQ fs[k]).length cq,.slice Ax (fB fs[k]).length cx] 67)
    have G1:=BoxOf.new wr #[.int .i64 (fN fs[k]),.int .u8 (kI fs[k]),.int .i64 (fA fs[k]),.int .i64 (fM fs[k]),.slice Ab (fD fs[k]).length cb,.slice As (fS fs[k]).length cs,.slice Aq (fQ fs[k]).length cq,.slice Ax (fB fs[k]).length cx] 67
    have HC:=Lib.hid (HP.out _ fs[k] bf Ab cb As cs Aq cq Ax cx (Ext.trans bw bA) hmem (r2.below bA) (r3.below bA))
    generalize fs[k] = g at *
    generalize (partF p (fs.take k) true).1 = ys at *
    generalize (partF p (fs.take k) true).2 = ns at *
    subst e1 e2
    have HS1 : Hid (partF p (fs.take k ++ [g]) true = if p g bf = true then (ys ++ [g],ns) else (ys,ns ++ [g])):=HSTP
    have hw : wrap64 ((ns.length : Int) + (ys.length : Int)) = (k : Int):=by rw [show (ns.length : Int) + (ys.length : Int) = (k : Int) by omega];exact IntWalk.wrap64_in _ (by have:=HN9.out;omega)
    obtain ⟨bv,hbv⟩ : ∃ z : Bool,z = p g bf:=⟨_,rfl⟩
    rw [← hbv] at HC HS1
    have HWJ:=IntWalk.wrap64_in ((k : Int) + 1) (by have:=HN9.out;omega)
    have HKK:=Lib.hid (And.intro hlt (And.intro hab hbf))
    have HB1:=Lib.hid b1
    have HYN : Hid (ys.length ≤ 1000 ∧ ns.length ≤ 1000):=by have:=HN9.out;show _ ∧ _;omega
    clear hbv HSTP hbf2 htl hlf hmem r2 r3 b1 hab
    go_upto_region 4 with fail
    clear q0 q1 q2 q3 q4 q5 q6 q7
    have HY1:=Lib.hid (HO.out.1.next bA)
    have HN1:=Lib.hid (HO.out.2.1.next bA)
    have HAP:=Lib.hid HO.out.2.2
    have HBA:=Lib.hid (Ext.trans HB1.out bA)
    obtain ⟨gl,hgl⟩ : ∃ z : Nat,z = wr.heap.size:=⟨_,rfl⟩
    rw [← hgl] at G1 ⊢
    clear hgl bA HO
    generalize wr.alloc (.cells #[.int .i64 (fN g),.int .u8 (kI g),.int .i64 (fA g),.int .i64 (fM g),.slice Ab (fD g).length cb,.slice As (fS g).length cs,.slice Aq (fQ g).length cq,.slice Ax (fB g).length cx] 67) = W1 at *
    have x1:=G1.cell
    have HXB : Hid (((k : Int) == 0) = bf):=hbf.symm
    have hxb:=HXB.out
    clear hbf
    go_wp2_with fail
    refine HC.out.mono ?_
    rintro e w3 ⟨rfl,b3⟩
    have b5:=Ext.alloc b3 (.cells #[.int .i64 (fN g),.int .u8 (kI g),.int .i64 (fA g),.int .i64 (fM g),.slice Ab (fD g).length cb,.slice As (fS g).length cs,.slice Aq (fQ g).length cq,.slice Ax (fB g).length cx] 67)
    have HY5:=Lib.hid (HY1.out.next b5)
    have HN5:=Lib.hid (HN1.out.next b5)
    have HB5:=Lib.hid (Ext.trans HBA.out b5)
    have RD5:=Lib.hid (rd_row w3 #[.int .i64 (fN g),.int .u8 (kI g),.int .i64 (fA g),.int .i64 (fM g),.slice Ab (fD g).length cb,.slice As (fS g).length cs,.slice Aq (fQ g).length cq,.slice Ax (fB g).length cx] 67)
    have x3:=(G1.next b3).cell
    have HSZ : Hid (W.heap.size ≤ (w3.alloc (.cells #[.int .i64 (fN g),.int .u8 (kI g),.int .i64 (fA g),.int .i64 (fM g),.slice Ab (fD g).length cb,.slice As (fS g).length cs,.slice Aq (fQ g).length cq,.slice Ax (fB g).length cx] 67)).heap.size):=(Ext.trans HBA.out b5).size
    have HLT : Hid (k < N):=HKK.out.1
    clear x1 HY1 HN1 b5 b3 hxb hw HBA HC
    cases bv with
    | true=>
      have HS2 : Hid (partF p (fs.take k ++ [g]) true = (ys ++ [g],ns)):=HS1.out
      go_wp2_with (at_builtin;refine wpList_push8 _ rfl (.tmp 23) (.tmp 25) 25 rfl W.heap.size ig _ Try.underlying25 hig hg0 hg1 hg2 rfl _ ys rfl HY5.out _ 1 (#[.int .i64 (fN g),.int .u8 (kI g),.int .i64 (fA g),.int .i64 (fM g),.slice Ab (fD g).length cb,.slice As (fS g).length cs,.slice Aq (fQ g).length cq,.slice Ax (fB g).length cx] : Array Value).toList rfl RD5.out g (by rfl) HGE.out (by have:=HYN.out;unfold maxLen;omega) (by have:=HYN.out;omega) HSZ.out ?_;intro v6 w6 k1 k2 k3;have HY6:=Lib.hid k1;have HG6:=Lib.hid (And.intro k2 k3);clear k1 k2 k3)
      obtain ⟨k2,k3⟩:=HG6.out
      have HN6:=Lib.hid (HN5.out.keep (w':=w6) fun r hr=>k2.block r (HN5.out.lt r hr) (fun e=>HAP.out r e.symm hr))
      have HP6 : Hid (Apart2 v6 (.slice A2 ns.length c2)):=fun r hr hr2=>by
       rcases k3 with k3 | k3
       · exact HAP.out r (k3 ▸ hr) hr2
       · rw [k3] at hr
         have:=HN5.out.lt r hr2
         injection hr with hr
         omega
      have b6:=Below.grown HB5.out k2 HB5.out.size (fun r e=>HY5.out.le r e)
      have HB6:=Lib.hid b6
      clear k2 k3 b6 HG6
      go_roundw
      case rel=>exact ⟨k + 1,HLT.out,by first | rfl | (rw [HWJ];rfl),HB6.out,⟨by rw [HTK.out,HS2.out];exact HY6.out,by rw [HTK.out,HS2.out];exact HN6.out,HP6.out⟩⟩
      case measure=>rw [HWJ];have h:=HLT.out;simp only [intOf];omega
    | false=>
      have HS2 : Hid (partF p (fs.take k ++ [g]) true = (ys,ns ++ [g])):=HS1.out
      go_wp2_with (at_builtin;refine wpList_push8 _ rfl (.tmp 27) (.tmp 29) 25 rfl W.heap.size ig _ Try.underlying25 hig hg0 hg1 hg2 rfl _ ns rfl HN5.out _ 1 (#[.int .i64 (fN g),.int .u8 (kI g),.int .i64 (fA g),.int .i64 (fM g),.slice Ab (fD g).length cb,.slice As (fS g).length cs,.slice Aq (fQ g).length cq,.slice Ax (fB g).length cx] : Array Value).toList rfl RD5.out g (by rfl) HGE.out (by have:=HYN.out;unfold maxLen;omega) (by have:=HYN.out;omega) HSZ.out ?_;intro v6 w6 k1 k2 k3;have HN6:=Lib.hid k1;have HG6:=Lib.hid (And.intro k2 k3);clear k1 k2 k3)
      obtain ⟨k2,k3⟩:=HG6.out
      have HY6:=Lib.hid (HY5.out.keep (w':=w6) fun r hr=>k2.block r (HY5.out.lt r hr) (fun e=>HAP.out r hr e.symm))
      have HP6 : Hid (Apart2 (.slice A1 ys.length c1) v6):=fun r hr hr2=>by
       rcases k3 with k3 | k3
       · exact HAP.out r hr (k3 ▸ hr2)
       · rw [k3] at hr2
         have:=HY5.out.lt r hr
         injection hr2 with hr2
         omega
      have b6:=Below.grown HB5.out k2 HB5.out.size (fun r e=>HN5.out.le r e)
      have HB6:=Lib.hid b6
      clear k2 k3 b6 HG6
      go_roundw
      case rel=>exact ⟨k + 1,HLT.out,by first | rfl | (rw [HWJ];rfl),HB6.out,⟨by rw [HTK.out,HS2.out];exact HY6.out,by rw [HTK.out,HS2.out];exact HN6.out,HP6.out⟩⟩
      case measure=>rw [HWJ];have h:=HLT.out;simp only [intOf];omega
  · have hkN : k = N:=by omega
    have hall : fs.take k = fs:=List.take_of_length_le (by have:=HNL.out;omega)
    have HO2 : Hid (Row8 W S wr W.heap.size u4 (partF p fs true).1 ∧ Row8 W S wr W.heap.size u5 (partF p fs true).2):=by
     obtain ⟨h1,h2,_⟩:=HO.out
     rw [hall] at h1 h2
     exact ⟨h1,h2⟩
    have HFIN : Hid (PartIs w S w.heap.size p fs (.returned (.tuple #[u4,u5])) wr):=by
     have:=HWW.out
     subst this
     exact ⟨u4,u5,rfl,HO2.out.1,HO2.out.2⟩
    have HBW:=Lib.hid bw
    clear hkN hall HO HO2 bw
    go_wp2
    go_ret2
    exact ⟨HFIN.out,HBW.out⟩
end Go.Proofs.Ythapabjlhooglaa
namespace Go.Proofs.Ythapabjlhooglaa
open Go Go.RowKit Go.Shelf
set_option linter.unusedSimpArgs false
set_option linter.unusedVariables false
def joinRen : Go.Shelf.Ren:=⟨fun | 14=>62 | 15=>82 | n=>n,fun | 26=>65 | 22=>26 | 3=>3 | 4=>4 | 0=>0 | 9=>9 | 20=>20 | 5=>5 | n=>n,fun | n=>n⟩
theorem joinLays : Go.Proofs.SlLaysJ.n14 Try.prog joinRen:={
 mixed:=by kernel_rfl
 f14:=Try.func62.trans (congrArg some (by kernel_rfl))
 f15:=Try.func82.trans (congrArg some (by kernel_rfl))
 t0:=Try.underlying0
 a0:=Try.isAgg0
 z0:=Try.sizeOf0
 v0:=Try.zeroValue0
 t3:=Try.underlying3
 a3:=Try.isAgg3
 z3:=Try.sizeOf3
 v3:=Try.zeroValue3
 t4:=Try.underlying4
 a4:=Try.isAgg4
 z4:=Try.sizeOf4
 v4:=Try.zeroValue4
 t9:=Try.underlying9
 a9:=Try.isAgg9
 z9:=Try.sizeOf9
 v9:=Try.zeroValue9
 t20:=Try.underlying20
 a20:=Try.isAgg20
 z20:=Try.sizeOf20
 v20:=Try.zeroValue20
 t22:=Try.underlying26
 a22:=Try.isAgg26
 z22:=Try.sizeOf26
 v22:=Try.zeroValue26
 t26:=Try.underlying65
 a26:=Try.isAgg65
 z26:=Try.sizeOf65
 v26:=Try.zeroValue65
 t5:=Try.underlying5
 z5:=Try.sizeOf5
 i5:=by kernel_rfl }
theorem fresh_rd {B : Nat} {w : World} {v : Value} {l : List UInt8} (h : Lib.FreshBytes B w v l) (hl : l.length ≤ 140737488355328) : RdIn w (Iv B w.heap.size) (.sl .byte) l [v]:=by
 obtain ⟨g,cap,zs,rfl,h1,h2,h3,h4,h5,h6,h7,_⟩:=h
 rcases Nat.eq_zero_or_pos l.length with h0 | h0
 · exact rdin_sl.2 ⟨_,cap,rfl,h2,h3,by have : l.length * 1 ≤ 140737488355328:=by omega
                                       exact this,.inl (List.eq_nil_of_length_eq_zero h0)⟩
 · refine rdin_sl.2 ⟨_,cap,rfl,h2,h3,by have : l.length * 1 ≤ 140737488355328:=by omega
                                        exact this,.inr ⟨g,0,rfl,⟨h1,?_⟩,fun i hi=>⟨[.int .u8 (zs.getD i 0)],fun j hj=>?_,?_⟩⟩⟩
   · exact block_lt_of_cell (h7 0 (by omega))
   · have hj0 : j = 0:=by have : j < 1:=hj;omega
     subst hj0
     have hi' : i < l.length:=hi
     have h8:=h7 i (by omega)
     show w.cell? ⟨g,0 + i * 1 + 0,none⟩ = _
     rw [Nat.mul_one,Nat.zero_add,Nat.add_zero,h8]
     rfl
   · have hi' : i < l.length:=hi
     refine rdin_byte.2 ?_
     have h8 : zs.getD i 0 = ((l[i]'hi').toNat : Int):=by
      have h9 : (Lib.bytesOf (zs.take l.length))[i]? = l[i]?:=by rw [h6]
      rw [List.getElem?_eq_getElem hi'] at h9
      unfold Lib.bytesOf at h9
      rw [List.getElem?_map,List.getElem?_take,if_pos hi'] at h9
      rw [List.getD_eq_getElem?_getD]
      have h10 : i < zs.length:=by omega
      rw [List.getElem?_eq_getElem h10] at h9 ⊢
      simp only [Option.map_some,Option.some.injEq,Option.getD_some] at h9 ⊢
      have h11:=h5 _ (List.getElem_mem h10)
      rw [← h9,UInt8.toNat_ofNat']
      omega
     rw [h8]
     rfl
theorem holds_of {w : World} {S : Nat → Prop} {l : List UInt8} {v : Value} (h : RdIn w S (.sl .byte) l [v]) : Lib.HoldsBytes w v l:=by
 obtain ⟨A,c,rfl⟩:=bytesV h
 obtain ⟨_,hr⟩:=h.bytes_bs
 rcases hr with h0 | ⟨b,off,rfl,hc⟩
 · have hl : l = []:=List.map_eq_nil_iff.1 h0
   subst hl
   exact ⟨A,c,rfl,fun _=>rfl,fun a _ i x hx=>by simp at hx⟩
 · refine ⟨_,c,rfl,fun e=>(by cases e),fun a ha i x hx=>?_⟩
   injection ha with ha
   subst ha
   have hi : i < l.length:=(List.getElem?_eq_some_iff.1 hx).1
   have h1:=hc i (by simpa using hi)
   rw [add_plain,h1,List.getElem?_map,hx]
   rfl
theorem join_flat : ∀ ds : List (List UInt8),Lib.join ds [] = ds.flatten
 | []=>rfl
 | x :: r=>by
   rw [Lib.join_cons]
   unfold Lib.joinTail
   simp
theorem lens_flat (ds : List (List UInt8)) : ds.flatten.length = Lib.lens ds:=by
 unfold Lib.lens
 rw [List.length_flatten]
theorem join_any (S : Nat → Prop) (ds : List (List UInt8)) (A : Option Addr) (n c : Nat) (hn : ds.length = n) (hz : Lib.lens ds ≤ 100000) (hn9 : n ≤ 1000) (w : World) (h : RdIn w S (.sl (.sl .byte)) ds [.slice A n c]) :
 Calls Try.prog 62 #[.slice A n c,.slice none 0 0] w fun e w'=>(∃ v,e = .returned v ∧ RdIn w' (Iv w.heap.size w'.heap.size) (.sl .byte) ds.flatten [v]) ∧ Below w.heap.size w w':=by
 obtain ⟨hs,h1,h2,h3,h4,h5⟩:=heads_of h
 have hcap : n ≤ c ∧ c ≤ maxLen:=by
  obtain ⟨A',c',e,k1,k2,_⟩:=rdin_sl.1 h
  injection e with e _
  injection e with e1 e2 e3
  subst e3
  exact ⟨by rw [e2];exact k1,k2⟩
 have hfl:=lens_flat ds
 rcases Nat.lt_or_ge n 2 with hlt | hge
 · rcases Nat.eq_zero_or_pos n with h0 | h0
   · subst h0
     have hd : ds = []:=List.eq_nil_of_length_eq_zero hn
     subst hd
     refine Calls.mono (Any.bytes_Join_none joinLays A c (.slice none 0 0) w) ?_
     rintro e w' ⟨rfl,rfl⟩
     exact ⟨⟨_,rfl,rdin_nilb (by unfold maxLen;omega) _⟩,Ext.alloc (Below.refl _ _) _⟩
   · have h1n : n = 1:=by omega
     subst h1n
     obtain ⟨d,hd⟩:=List.length_eq_one_iff.1 hn
     subst hd
     have hl1 : hs.length = 1:=by rw [h1];rfl
     have r0:=h5 0 (by omega) (by simp)
     rcases h3 with h3 | ⟨b,off,rfl,hc⟩
     · rw [h3] at hl1;cases hl1
     have hc0:=hc 0 (by omega)
     rw [Nat.add_zero,List.getElem?_eq_getElem (by omega)] at hc0
     obtain ⟨p0,c0,ev,k1,k2⟩:=holds_of r0
     rw [ev] at hc0
     have e0 : ([d] : List (List UInt8))[0]'(by simp) = d:=rfl
     rw [e0] at hc0 k1 k2
     rcases Nat.eq_zero_or_pos d.length with hd0 | hd0
     · have hdn : d = []:=List.eq_nil_of_length_eq_zero hd0
       subst hdn
       refine Calls.mono (Any.bytes_Join_one_empty joinLays b off c p0 c0 (.slice none 0 0) w hc0) ?_
       rintro e w' ⟨rfl,rfl⟩
       exact ⟨⟨_,rfl,rdin_nilb (by unfold maxLen;omega) _⟩,Below.refl _ _⟩
     · cases p0 with
       | none=>rw [k1 rfl] at hd0;cases hd0
       | some ad0=>
         have hfd : [d].flatten = d:=by simp
         refine Calls.mono (Any.bytes_Join_one joinLays b off c ad0 c0 d (.slice none 0 0) w hc0 (k2 ad0 rfl) hd0 (by rw [hfd] at hfl;omega)) ?_
         rintro e w' ⟨v,rfl,hf,hb⟩
         exact ⟨⟨v,rfl,by rw [hfd];exact fresh_rd hf (by rw [hfd] at hfl;omega)⟩,hb⟩
 · rcases h3 with h3 | ⟨b,off,rfl,hc⟩
   · rw [h3] at h1;have : ([] : List Value).length = 0:=rfl;omega
   · have hP : Lib.PartsAt w ⟨b,off,none⟩ hs ds:=by
      refine ⟨h1,fun i v hv=>?_,fun i v l hv hl=>?_⟩
      · have hi : i < hs.length:=(List.getElem?_eq_some_iff.1 hv).1
        rw [add_plain,hc i hi,hv]
      · obtain ⟨hi,e1⟩:=List.getElem?_eq_some_iff.1 hv
        obtain ⟨hi2,e2⟩:=List.getElem?_eq_some_iff.1 hl
        subst e1 e2
        exact holds_of (h5 i hi hi2)
     refine Calls.mono (Any.bytes_Join_many joinLays b off n c hs ds (.slice none 0 0) [] w hn hge hP hcap.1 ⟨none,0,rfl,fun _=>rfl,fun a ha=>by cases ha⟩ (by omega) (by simp;omega)) ?_
     rintro e w' ⟨v,rfl,hf,hb⟩
     rw [join_flat] at hf
     exact ⟨⟨v,rfl,fresh_rd hf (by omega)⟩,hb⟩
end Go.Proofs.Ythapabjlhooglaa
namespace Go.Proofs.Ythapabjlhooglaa
open Go Go.RowKit Go.Maps
set_option linter.unusedSimpArgs false
set_option linter.unusedVariables false
abbrev RpL : Type:=Int × List UInt8 × Int
def rpOf (f : FlTy.T) : RpL:=(fN f,(fB f).flatten,fM f)
def rpE : ElemP RpL 4 where
 E:=fun w S x es=>∃ v,es = [.int .i64 x.1,.int .i64 0,v,.int .i64 x.2.2] ∧ RdIn w S (.sl .byte) x.2.1 [v]
 frame:=by
  rintro w w' S x es ⟨v,rfl,h⟩ hf
  exact ⟨v,rfl,h.frame hf⟩
 mono:=by
  rintro w S S' x es ⟨v,rfl,h⟩ hS
  exact ⟨v,rfl,h.mono hS⟩
 len:=by rintro w S x es ⟨v,rfl,h⟩;rfl
 plain:=by
  rintro w S x es ⟨v,rfl,h⟩ u hu
  obtain ⟨A,c,rfl⟩:=bytesV h
  simp only [List.mem_cons,List.not_mem_nil,or_false] at hu
  rcases hu with rfl | rfl | rfl | rfl <;> rfl
def doneP (x : Cfg) (fs : List FlTy.T) (ga gq : Nat) (gt gu : Int) (ls : List LvTy.T) (back nolog : Bool) : List FlTy.T × List RpL × Int:=
 if flB x fs = true then (if (decide x.Ok && logR x.m x.c x.r x.l ga gq gt gu ls) = true then ((partF (doneB ls back nolog) fs true).2,(partF (doneB ls back nolog) fs true).1.map rpOf,0) else ([],[],8)) else ([],[],8)
def Told (lo : Nat) (rs : List RpL) (v : Value) (w : World) : Prop:=OwnE rpE w (Iv lo w.heap.size) lo 63 v rs
def DoneRes (lo : Nat) (r : List FlTy.T × List RpL × Int) (e : Ending) (w : World) : Prop:=∃ A c A2 c2,e = .returned (.tuple #[.slice A r.1.length c,.slice A2 r.2.1.length c2,.int .i64 r.2.2]) ∧ FlNew lo r.1 (.slice A r.1.length c) w ∧ Told lo r.2.1 (.slice A2 r.2.1.length c2) w
theorem DoneRes.bad {lo : Nat} {v : Int} {w : World} : DoneRes lo ([],[],v) (.returned (.tuple #[.slice none 0 0,.slice none 0 0,.int .i64 v])) w:=⟨none,0,none,0,rfl,OwnE.nil _ _ _ _ _,OwnE.nil _ _ _ _ _⟩
theorem DoneRes.mk {lo L1 L2 c c2 : Nat} {outs : List FlTy.T} {rs : List RpL} {A A2 : Option Addr} {v : Int} {w : World} (h1 : outs.length = L1) (h2 : rs.length = L2) (hf : FlNew lo outs (.slice A L1 c) w) (ht : Told lo rs (.slice A2 L2 c2) w) : DoneRes lo (outs,rs,v) (.returned (.tuple #[.slice A L1 c,.slice A2 L2 c2,.int .i64 v])) w:=by
 subst h1 h2
 exact ⟨A,c,A2,c2,rfl,hf,ht⟩
theorem blkB_len {k : Int} {s : UInt8} {q n : Nat} (h : blkB k s q n = true) : n ≤ 128:=by
 unfold blkB at h
 rw [Bool.and_eq_true] at h
 have h2:=h.2
 split at h2
 · rw [Bool.or_eq_true] at h2
   rcases h2 with h2 | h2
   · have:=of_decide_eq_true h2;omega
   · have:=of_decide_eq_true h2;omega
 · have:=of_decide_eq_true h2;omega
theorem blksB_lens {k : Int} : ∀ {ss : List UInt8} {qs : List Nat} {ds : List (List UInt8)},ss.length = ds.length → blksB k ss qs ds = true → Lib.lens ds ≤ 128 * ds.length
 | [],qs,[],_,_=>by simp [Lib.lens]
 | [],qs,d :: ds,h,_=>by simp at h
 | s :: ss,qs,[],h,_=>by simp at h
 | s :: ss,[],d :: ds,_,h=>by simp [blksB] at h
 | s :: ss,q :: qs,d :: ds,h,h2=>by
   unfold blksB at h2
   rw [Bool.and_eq_true] at h2
   have h3:=blksB_lens (k:=k) (ss:=ss) (qs:=qs) (ds:=ds) (by simpa using h) h2.2
   have h4:=blkB_len h2.1
   have e : Lib.lens (d :: ds) = d.length + Lib.lens ds:=by simp [Lib.lens]
   rw [e,List.length_cons]
   omega
theorem oneB_lens {x : Cfg} {f : FlTy.T} (h : oneB x f = true) : Lib.lens (fB f) ≤ 2000 ∧ (fB f).length ≤ 8 ∧ (kI f = 4 → 0 < (fQ f).length) ∧ (kI f ≠ 4 → (fS f).length ≤ (fQ f).length):=by
 obtain ⟨h1,_,h3,h4,h5,h6⟩:=oneB_iff.1 h
 obtain ⟨_,hpl,_,hy,_,_⟩:=askCode_0 h1
 have h7:=blksB_lens (by omega) h6
 refine ⟨by omega,by omega,fun h8=>?_,fun h8=>?_⟩
 · rw [if_pos h8] at h5;omega
 · rw [if_neg h8] at h5;omega
theorem partF_mem {p : FlTy.T → Bool → Bool} : ∀ {xs : List FlTy.T} {b : Bool} {f : FlTy.T},f ∈ (partF p xs b).1 ∨ f ∈ (partF p xs b).2 → f ∈ xs
 | [],_,_,h=>by simp [partF] at h
 | x :: xs,b,f,h=>by
   unfold partF at h
   split at h
   · rcases h with h | h
     · rcases List.mem_cons.1 h with h | h
       · rw [h];exact List.mem_cons_self ..
       · exact List.mem_cons_of_mem _ (partF_mem (.inl h))
     · exact List.mem_cons_of_mem _ (partF_mem (.inr h))
   · rcases h with h | h
     · exact List.mem_cons_of_mem _ (partF_mem (.inl h))
     · rcases List.mem_cons.1 h with h | h
       · rw [h];exact List.mem_cons_self ..
       · exact List.mem_cons_of_mem _ (partF_mem (.inr h))
theorem told_low {lo lo' : Nat} {rs : List RpL} {v : Value} {w : World} (h : Told lo rs v w) (hl : lo' ≤ lo) : Told lo' rs v w:=by
 obtain ⟨ess,Sf,h1,h2,h3,h4,h5,h6⟩:=h
 refine ⟨ess,Sf,h1,h2,fun i b hb=>⟨⟨Nat.le_trans hl (h3 i b hb).1.1,(h3 i b hb).1.2⟩,(h3 i b hb).2⟩,h4,fun r hr=>⟨Nat.le_trans hl (h5 r hr).1,(h5 r hr).2⟩,h6.1,?_⟩
 rcases h6.2 with h | ⟨g,cap,cur,e,hg,hrest⟩
 · exact .inl h
 · exact .inr ⟨g,cap,cur,e,Nat.le_trans hl hg,hrest⟩
theorem minfo_reply : ∃ i,Try.prog.info? 63 = some i ∧ i.zero = some (.agg #[.int .i64 0,.int .i64 0,.slice none 0 0,.int .i64 0]) ∧ i.size = 4 ∧ i.bytes = 48:=info_parts (by kernel_rfl)
set_option maxRecDepth 100000 in
set_option maxHeartbeats 16000000 in
theorem fdone_any (S S2 : Nat → Prop) (x : Cfg) (fs : List FlTy.T) (N d : Nat) (B : Option Addr) (hN : fs.length = N) (ls : List LvTy.T) (n lc : Nat) (L : Option Addr) (hn : ls.length = n) (ga gq : Nat) (hga : ga < 2 ^ 32) (hgq : gq < 2 ^ 32) (gt gu : Int) (hgt : IsInt gt) (hgu : IsInt gu) (back nolog : Bool) (w : World) (hr : RdIn w S (.sl FlTy) fs [.slice B N d]) (hl : RdIn w S2 (.sl LvTy) ls [.slice L n lc]) :
 Calls Try.prog 27 #[x.val,.slice B N d,.agg #[.int .u32 (ga : Int),.int .u32 (gq : Int),.int .i64 gt,.int .i64 gu,.slice L n lc],.bool back,.bool nolog] w fun e w'=>DoneRes w.heap.size (doneP x fs ga gq gt gu ls back nolog) e w' ∧ Below w.heap.size w w':=by
 obtain ⟨ir,hir,hr0,hr1,hr2⟩:=minfo_reply
 have HX:=Lib.hid (fun (w : World) (hr : RdIn w S (.sl FlTy) fs [.slice B N d])=>fcheck_any S x fs N d B hN w hr)
 have HLC:=Lib.hid (fun (w : World) (hl : RdIn w S2 (.sl LvTy) ls [.slice L n lc])=>logcheck_any S2 x ls n lc L hn ga gq hga hgq gt gu hgt hgu w hl)
 have HON:=Lib.hid (fun (hc : flB x fs = true) (f : FlTy.T) (hf : f ∈ fs)=>by
  obtain ⟨k,hk,e⟩:=List.getElem_of_mem hf
  have h1:=((stB_iff hk).1 ((flB_iff.1 hc).2.2 k hk)).1
  rw [e] at h1
  exact oneB_lens h1)
 have HN8:=Lib.hid (fun (hc : flB x fs = true)=>(flB_iff.1 hc).2.1)
 have HPT:=Lib.hid (fun (w : World) (hc : flB x fs = true) (hr : RdIn w S (.sl FlTy) fs [.slice B N d]) (hl : RdIn w S2 (.sl LvTy) ls [.slice L n lc])=>part_any S fs N d B hN (by have:=HN8.out hc;omega) (doneB ls back nolog) #[.int .u32 (ga : Int),.int .u32 (gq : Int),.int .i64 gt,.int .i64 gu,.slice L n lc,.bool back,.bool nolog] w hr (fun wr g b Ab cb As cs Aq cq Ax cx bb hg h1 h2=>done_any S2 S ls n lc L hn ga gq gt gu back nolog g b Ab cb As cs Aq cq Ax cx (HON.out hc g hg).2.2.1 (HON.out hc g hg).2.2.2 wr (hl.below bb) h1 h2))
 obtain ⟨mv,hmv⟩ : ∃ z,z = doneP x fs ga gq gt gu ls back nolog:=⟨_,rfl⟩
 rw [← hmv]
 obtain ⟨lb,hlb⟩ : ∃ z : Bool,z = (decide x.Ok && logR x.m x.c x.r x.l ga gq gt gu ls):=⟨_,rfl⟩
 obtain ⟨ys,hys⟩ : ∃ z,z = (partF (doneB ls back nolog) fs true).1:=⟨_,rfl⟩
 obtain ⟨ns,hns⟩ : ∃ z,z = (partF (doneB ls back nolog) fs true).2:=⟨_,rfl⟩
 have HMV : Hid (mv = if flB x fs = true then (if lb = true then (ns,ys.map rpOf,0) else ([],[],8)) else ([],[],8)):=by show _ = _;rw [hmv,hlb,hys,hns];rfl
 have HLB : Hid (∀ (w : World) (hl : RdIn w S2 (.sl LvTy) ls [.slice L n lc]),Calls Try.prog 31 #[x.val,.agg #[.int .u32 (ga : Int),.int .u32 (gq : Int),.int .i64 gt,.int .i64 gu,.slice L n lc]] w fun e w'=>e = .returned (.int .i64 (if lb = true then 0 else 8)) ∧ Below w.heap.size w w'):=by
  show ∀ (w : World),_ → _
  rw [hlb]
  exact HLC.out
 have HPR:=Lib.hid (fun (w : World) (hc : flB x fs = true) (hr : RdIn w S (.sl FlTy) fs [.slice B N d]) (hl : RdIn w S2 (.sl LvTy) ls [.slice L n lc])=>by
  have h1:=HPT.out w hc hr hl
  unfold PartIs at h1
  rw [← hys,← hns] at h1
  exact h1)
 have HYS : Hid (∀ f,f ∈ ys → f ∈ fs):=fun f hf=>partF_mem (.inl (by rw [← hys];exact hf))
 have HYL : Hid (ys.length + ns.length = fs.length):=by show _ = _;rw [hys,hns];exact partF_len _ _ _
 clear hmv hlb hys hns HLC HPT hga hgq hgt hgu hn
 obtain ⟨id,m',c,r,l,h⟩:=x
 unfold Cfg.val at *
 dsimp only at *
 have C0:=BoxOf.alloc (BoxOf.new w #[.int .u32 (id : Int),.int .i64 m',.int .i64 c,.int .i64 r,.int .i64 l,.int .i64 h] 24) (.cells #[.int .u32 (ga : Int),.int .u32 (gq : Int),.int .i64 gt,.int .i64 gu,.slice L n lc] 60)
 have G0:=BoxOf.new' (w.alloc (.cells #[.int .u32 (id : Int),.int .i64 m',.int .i64 c,.int .i64 r,.int .i64 l,.int .i64 h] 24)) (w.heap.size + 1) #[.int .u32 (ga : Int),.int .u32 (gq : Int),.int .i64 gt,.int .i64 gu,.slice L n lc] 60 (by simp)
 have t0:=Ext.alloc (Ext.alloc (Below.refl w.heap.size w) (.cells #[.int .u32 (id : Int),.int .i64 m',.int .i64 c,.int .i64 r,.int .i64 l,.int .i64 h] 24)) (.cells #[.int .u32 (ga : Int),.int .u32 (gq : Int),.int .i64 gt,.int .i64 gu,.slice L n lc] 60)
 have HR:=Lib.hid (hr.below t0)
 have HL:=Lib.hid (hl.below t0)
 have HNL:=Lib.hid hN
 clear hr hl hN
 go_enter Try.func27,Try.ntmps27
 go_upto_region 1 with fail
 generalize (w.alloc (.cells #[.int .u32 (id : Int),.int .i64 m',.int .i64 c,.int .i64 r,.int .i64 l,.int .i64 h] 24)).alloc (.cells #[.int .u32 (ga : Int),.int .u32 (gq : Int),.int .i64 gt,.int .i64 gu,.slice L n lc] 60) = W at *
 have x0:=C0.cell
 go_wp2_with fail
 refine (HX.out _ HR.out).mono ?_
 rintro e w1 ⟨he,b1⟩
 have t1:=Ext.trans t0 b1
 have C1:=C0.next b1
 have G1:=G0.next b1
 clear x0
 rcases okbad_cases he with ⟨hk,rfl⟩ | ⟨hk,rfl⟩
 rotate_left
 · have hm : mv = ([],[],8):=by rw [HMV.out,if_neg hk]
   subst hm
   clear he hk C1 G1
   go_wp2
   go_ret3
   exact ⟨DoneRes.bad,t1⟩
 have HK:=Lib.hid hk
 have HR1:=Lib.hid (HR.out.below b1)
 have HL1:=Lib.hid (HL.out.below b1)
 clear he hk HX HR HL C0 G0 t0 b1
 have x1:=C1.cell
 have y1:=G1.cell
 go_wp2_with fail
 refine (HLB.out _ HL1.out).mono ?_
 rintro e w2 ⟨rfl,b2⟩
 have t2:=Ext.trans t1 b2
 have G2:=G1.next b2
 have HR2:=Lib.hid (HR1.out.below b2)
 have HL2:=Lib.hid (HL1.out.below b2)
 clear x1 y1 HR1 HL1 C1 G1 t1 b2 HLB
 cases lb with
 | false=>
   have hm : mv = ([],[],8):=by rw [HMV.out,if_pos HK.out];rfl
   subst hm
   go_wp2
   go_ret3
   exact ⟨DoneRes.bad,t2⟩
 | true=>
 have HM : Hid (mv = (ns,ys.map rpOf,0)):=by show _ = _;rw [HMV.out,if_pos HK.out];rfl
 clear HMV
 have y2:=G2.cell
 have HPP:=Lib.hid (HPR.out w2 HK.out HR2.out HL2.out)
 go_wp2_with fail
 refine HPP.out.mono ?_
 rintro e w3 ⟨⟨v,u,rfl,ry,rn⟩,b3⟩
 have t3:=Ext.trans t2 b3
 obtain ⟨Ay,cy,ey⟩:=ry.slice
 obtain ⟨An,cn,en⟩:=rn.slice
 subst ey en
 obtain ⟨M,hM⟩ : ∃ z : Nat,z = ys.length:=⟨_,rfl⟩
 have HYR:=Lib.hid (ry.rd b3 (by have:=HYL.out;have:=HN8.out HK.out;omega))
 have HNR:=Lib.hid (rn.rd b3 (by have:=HYL.out;have:=HN8.out HK.out;omega))
 have HM8 : Hid (M ≤ 8 ∧ ns.length ≤ 8):=by have:=HYL.out;have:=HN8.out HK.out;show _ ∧ _;omega
 have HML:=Lib.hid hM
 rw [← hM]
 rw [← hM] at HYR
 clear ry rn y2 HPP HPR HR2 HL2 b3 t2 hM
 go_wp2
 obtain ⟨W3,hW3⟩ : ∃ z : World,z = w3:=⟨_,rfl⟩
 have b0 : Below W3.heap.size W3 w3:=by rw [hW3];exact Below.refl _ _
 have HT3 : Hid (Below w.heap.size w W3):=by rw [hW3];exact t3
 rw [← hW3] at HYR HNR
 clear hW3 t3 G2
 go_loopw [11,43] (fun v i wr=>∃ (k : Nat),k ≤ M ∧ i = .int .i64 (k : Int) ∧ Below W3.heap.size W3 wr ∧ Hid (Told W3.heap.size ((ys.take k).map rpOf) v wr)) (fun _ i _=>M - (intOf i).toNat)
 case atStart=>exact ⟨0,by omega,rfl,b0,OwnE.nil _ _ _ _ _⟩
 case round=>
  obtain ⟨k,hk,rfl,b1,HO⟩:=hrel
  clear b0
  by_cases hlt : k < M
  · have hlf : k < ys.length:=by have:=HML.out;omega
    obtain ⟨b,off,Ab,cb,As,cs,Aq,cq,Ax,cx,rfl,q0,q1,q2,q3,q4,q5,q6,q7,hi,r1,r2,r3,r4⟩:=fl_at (HYR.out.below b1) hlf
    have HTK:=Lib.hid (show ys.take (k + 1) = ys.take k ++ [ys[k]] from List.take_succ_eq_append_getElem hlf)
    have hmem : ys[k] ∈ fs:=HYS.out _ (List.getElem_mem _)
    have HLN:=Lib.hid (HON.out HK.out _ hmem)
    have HLK : Hid (((ys.take k).map rpOf).length = k):=by show _ = _;rw [List.length_map,List.length_take];omega
    generalize ys[k] = g at *
    obtain ⟨At,ct,ev⟩:=OwnE.slice HO.out
    rw [HLK.out] at ev
    subst ev
    have HWJ:=IntWalk.wrap64_in ((k : Int) + 1) (by have:=HM8.out;omega)
    have bA:=Ext.alloc (Below.refl wr.heap.size wr) (.cells #[.int .i64 (fN g),.int .u8 (kI g),.int .i64 (fA g),.int .i64 (fM g),.slice Ab (fD g).length cb,.slice As (fS g).length cs,.slice Aq (fQ g).length cq,.slice Ax (fB g).length cx] 67)
    have G1:=BoxOf.new wr #[.int .i64 (fN g),.int .u8 (kI g),.int .i64 (fA g),.int .i64 (fM g),.slice Ab (fD g).length cb,.slice As (fS g).length cs,.slice Aq (fQ g).length cq,.slice Ax (fB g).length cx] 67
    obtain ⟨fl,hfl⟩ : ∃ z,z = (fB g).flatten:=⟨_,rfl⟩
    have HRP : Hid (rpOf g = ((fN g,fl,fM g) : RpL)):=by rw [hfl];rfl
    have HJ:=Lib.hid (fun (w : World) (bb : Below wr.heap.size wr w)=>join_any _ (fB g) Ax (fB g).length cx rfl (by have:=HLN.out;omega) (by have:=HLN.out;omega) w (r4.below bb))
    rw [← hfl] at HJ
    have HLT:=Lib.hid hlt
    have HB1:=Lib.hid b1
    clear r1 r2 r3 r4 hi hmem hlf hlt b1 hfl
    go_upto_region 11 with fail
    clear q0 q1 q2 q3 q4 q5 q6 q7
    obtain ⟨gl,hgl⟩ : ∃ z : Nat,z = wr.heap.size:=⟨_,rfl⟩
    rw [← hgl] at G1 ⊢
    clear hgl
    have bd:=Ext.trans bA (Ext.drew (Below.refl (wr.alloc (.cells #[.int .i64 (fN g),.int .u8 (kI g),.int .i64 (fA g),.int .i64 (fM g),.slice Ab (fD g).length cb,.slice As (fS g).length cs,.slice Aq (fQ g).length cq,.slice Ax (fB g).length cx] 67)).heap.size (wr.alloc (.cells #[.int .i64 (fN g),.int .u8 (kI g),.int .i64 (fA g),.int .i64 (fM g),.slice Ab (fD g).length cb,.slice As (fS g).length cs,.slice Aq (fQ g).length cq,.slice Ax (fB g).length cx] 67))))
    have G2:=G1.drew
    refine wp_region_held_drew (S:=fun w'=>∀ o,w'.cell? ⟨gl,o,none⟩ = (#[.int .i64 (fN g),.int .u8 (kI g),.int .i64 (fA g),.int .i64 (fM g),.slice Ab (fD g).length cb,.slice As (fS g).length cs,.slice Aq (fQ g).length cq,.slice Ax (fB g).length cx] : Array Value).toList[o]?) (by kernel_rfl) G2.cell (fun hS=>?_)
    clear bA G1
    generalize (wr.alloc (.cells #[.int .i64 (fN g),.int .u8 (kI g),.int .i64 (fA g),.int .i64 (fM g),.slice Ab (fD g).length cb,.slice As (fS g).length cs,.slice Aq (fQ g).length cq,.slice Ax (fB g).length cx] 67)).drew = vd at *
    refine wpAnyH_take (i:=0) (v:=?_) rfl (by kernel_rfl) (by kernel_rfl) (by kernel_rfl) (fun _ _ _ h=>h) (Or.inl ⟨by rfl,?_⟩) hS ?_
    rotate_left
    · (intro w hSw;(try dsimp only at hSw);go_simp;(try with_reducible rfl))
    rotate_left
    simp only [Act.put,zq0,zq1,zq2,zq3,zq4,zq5]
    refine wpAnyH_take (i:=1) (v:=?_) rfl (by kernel_rfl) (by kernel_rfl) (by kernel_rfl) (fun _ _ _ h=>h) (Or.inl ⟨by rfl,?_⟩) hS ?_
    rotate_left
    · (intro w hSw;(try dsimp only at hSw);go_simp;(try with_reducible rfl))
    rotate_left
    simp only [Act.put,zq0,zq1,zq2,zq3,zq4,zq5]
    refine wpAnyH_take (i:=2) (v:=?_) rfl (by kernel_rfl) (by kernel_rfl) (by kernel_rfl) (fun _ _ _ h=>h) (Or.inl ⟨by rfl,?_⟩) hS ?_
    rotate_left
    · (intro w hSw;(try dsimp only at hSw);go_simp;(try with_reducible rfl))
    rotate_left
    simp only [Act.put,zq0,zq1,zq2,zq3,zq4,zq5]
    refine wpAnyH_take (i:=3) (v:=?_) rfl (by kernel_rfl) (by kernel_rfl) (by kernel_rfl) (fun _ _ _ h=>h) (Or.inl ⟨by rfl,?_⟩) hS ?_
    rotate_left
    · (intro w hSw;(try dsimp only at hSw);go_simp;(try with_reducible rfl))
    rotate_left
    simp only [Act.put,zq0,zq1,zq2,zq3,zq4,zq5]
    refine wpAnyH_take (i:=4) (v:=?_) rfl (by kernel_rfl) (by kernel_rfl) (by kernel_rfl) (fun _ _ _ h=>h) (Or.inl ⟨by rfl,?_⟩) hS ?_
    rotate_left
    · (intro w hSw;(try dsimp only at hSw);go_simp;(try with_reducible rfl))
    rotate_left
    simp only [Act.put,zq0,zq1,zq2,zq3,zq4,zq5]
    refine wpAnyH_take (i:=6) (v:=?_) rfl (by kernel_rfl) (by kernel_rfl) (by kernel_rfl) (fun _ _ _ h=>h) (Or.inl ⟨by rfl,?_⟩) hS ?_
    rotate_left
    · (intro w hSw;(try dsimp only at hSw);go_simp;(try with_reducible rfl))
    rotate_left
    simp only [Act.put,zq0,zq1,zq2,zq3,zq4,zq5]
    refine wpAnyH_take (i:=7) (v:=?_) rfl (by kernel_rfl) (by kernel_rfl) (by kernel_rfl) (fun _ _ _ h=>h) (Or.inl ⟨by rfl,?_⟩) hS ?_
    rotate_left
    · (intro w hSw;(try dsimp only at hSw);go_simp;(try with_reducible rfl))
    rotate_left
    simp only [Act.put,zq0,zq1,zq2,zq3,zq4,zq5]
    refine wpAnyH_take (i:=8) (v:=?_) rfl (by kernel_rfl) (by kernel_rfl) (by kernel_rfl) (fun _ _ _ h=>h) (Or.inl ⟨by rfl,?_⟩) hS ?_
    rotate_left
    · (intro w hSw;(try dsimp only at hSw);go_simp;(try with_reducible rfl))
    rotate_left
    simp only [Act.put,zq0,zq1,zq2,zq3,zq4,zq5]
    refine wpAnyH_ready (rs:=[5]) (by kernel_rfl) (by simp) ?_
    refine AllReadyH.cons rfl (fun K hK=>?_) AllReadyH.nil
    rw [if_pos (by rfl)]
    go_simp
    refine (HJ.out vd bd).mono ?_
    rintro e w5 ⟨⟨vdd,rfl,rd⟩,b5⟩
    obtain ⟨Ad,cd,ed⟩:=bytesV rd
    subst ed
    have G5:=G2.next b5
    have bb5:=Ext.trans bd b5
    have HRD : Hid (RdIn w5 (Iv wr.heap.size w5.heap.size) (.sl .byte) fl [.slice Ad fl.length cd]):=rd.mono fun q hq=>⟨Nat.le_trans bd.size hq.1,hq.2⟩
    refine hK.out _ _ G5.cell (fun hS'=>?_)
    clear hK K hS rd b5 bd G2 HJ
    have hS:=hS'
    clear hS'
    try simp only [Act.put,zq0,zq1,zq2,zq3,zq4,zq5]
    refine wpAnyH_take (i:=9) (v:=?_) rfl (by kernel_rfl) (by kernel_rfl) (by kernel_rfl) (fun _ _ _ h=>h) (Or.inl ⟨by rfl,?_⟩) hS ?_
    rotate_left
    · (intro w hSw;(try dsimp only at hSw);go_simp;(try with_reducible rfl))
    rotate_left
    simp only [Act.put,zq0,zq1,zq2,zq3,zq4,zq5]
    refine wpAnyH_ready (rs:=[10]) (by kernel_rfl) (by simp) ?_
    refine AllReadyH.cons rfl (fun K hK=>?_) AllReadyH.nil
    rw [if_pos (by rfl)]
    go_simp
    have ba:=Ext.alloc (Below.refl w5.heap.size w5) (.cells #[.int .i64 (fN g),.int .i64 0,.slice Ad fl.length cd,.int .i64 (fM g)] 63)
    have G6:=G5.next ba
    have bb6:=Ext.trans bb5 ba
    have RW:=rd_row w5 #[.int .i64 (fN g),.int .i64 0,.slice Ad fl.length cd,.int .i64 (fM g)] 63
    have HRE : Hid (RdIn (w5.alloc (.cells #[.int .i64 (fN g),.int .i64 0,.slice Ad fl.length cd,.int .i64 (fM g)] 63)) (Iv wr.heap.size (w5.alloc (.cells #[.int .i64 (fN g),.int .i64 0,.slice Ad fl.length cd,.int .i64 (fM g)] 63)).heap.size) (.sl .byte) fl [.slice Ad fl.length cd]):=(HRD.out.below ba).mono fun q hq=>⟨hq.1,Nat.lt_of_lt_of_le hq.2 ba.size⟩
    refine hK.out _ _ G6.cell (fun hS'=>?_)
    clear hK K hS ba G5 bb5 HRD
    have hS:=hS'
    clear hS'
    try simp only [Act.put,zq0,zq1,zq2,zq3,zq4,zq5]
    obtain ⟨gb,hgb⟩ : ∃ z : Nat,z = w5.heap.size:=⟨_,rfl⟩
    rw [← hgb] at RW ⊢
    clear hgb
    generalize w5.alloc (.cells #[.int .i64 (fN g),.int .i64 0,.slice Ad fl.length cd,.int .i64 (fM g)] 63) = va at *
    have HTO:=Lib.hid (OwnE.next HO.out (fun q hq=>hq.2) bb6)
    refine wpAnyH_ready (rs:=[11]) (by kernel_rfl) (by simp) ?_
    refine AllReadyH.cons rfl (fun K hK=>?_) AllReadyH.nil
    rw [if_pos (by rfl)]
    refine wp_pushI (EP:=rpE) (.tmp 47) (.tmp 57) 55 rfl W3.heap.size wr.heap.size 63 ir _ 48 Try.underlying55 hir hr0 hr1 hr2 rfl (by decide) _ ((ys.take k).map rpOf) rfl HTO.out bb6.size HB1.out.size (some ⟨gb,0,none⟩) 1 (#[.int .i64 (fN g),.int .i64 0,.slice Ad fl.length cd,.int .i64 (fM g)] : Array Value).toList rfl RW ((fN g,fl,fM g) : RpL) ⟨_,rfl,HRE.out⟩ (by rw [HLK.out];have:=HM8.out;have:=HLT.out;unfold maxLen;omega) (by rw [HLK.out];have:=HM8.out;have:=HLT.out;omega) ?_
    intro v6 w6 k1 k2 k3
    have HT6:=Lib.hid k1
    have HB6:=Lib.hid (Below.grown (Ext.trans HB1.out bb6) k2 (Ext.trans HB1.out bb6).size k3)
    have hS6 : ∀ o,w6.cell? ⟨gl,o,none⟩ = (#[.int .i64 (fN g),.int .u8 (kI g),.int .i64 (fA g),.int .i64 (fM g),.slice Ab (fD g).length cb,.slice As (fS g).length cs,.slice Aq (fQ g).length cq,.slice Ax (fB g).length cx] : Array Value).toList[o]?:=(G6.grown k2 (fun e=>OwnE.box_ne HTO.out G6 (by decide) e)).cell
    refine hK.out _ _ hS6 (fun hS'=>?_)
    clear hK K hS hS6 k1 k2 k3 G6 RW HRE HTO bb6
    have hS:=hS'
    clear hS'
    try simp only [Act.put,zq0,zq1,zq2,zq3,zq4,zq5]
    refine wpAnyH_take (i:=12) (v:=?_) rfl (by kernel_rfl) (by kernel_rfl) (by kernel_rfl) (fun _ _ _ h=>h) (Or.inl ⟨by rfl,?_⟩) hS ?_
    rotate_left
    · (intro w hSw;(try dsimp only at hSw);go_simp;(try with_reducible rfl))
    rotate_left
    simp only [Act.put,zq0,zq1,zq2,zq3,zq4,zq5]
    refine wpAnyH_done (by kernel_rfl) ?_ _
    clear hS
    go_wp2
    go_roundw
    case rel=>exact ⟨k + 1,HLT.out,by first | rfl | (rw [HWJ];rfl),HB6.out,by rw [HTK.out,List.map_append,List.map_cons,List.map_nil,HRP.out];exact HT6.out⟩
    case measure=>rw [HWJ];have h:=HLT.out;simp only [intOf];omega
  · have hkM : k = M:=by omega
    have hall : ys.take k = ys:=List.take_of_length_le (by have:=HML.out;omega)
    have HO2:=HO.out
    rw [hall] at HO2
    obtain ⟨At,ct,ev⟩:=OwnE.slice HO2
    have hll : (ys.map rpOf).length = M:=by rw [List.length_map];exact HML.out.symm
    rw [hll] at ev
    subst ev
    have HTO:=Lib.hid HO2
    have HLL:=Lib.hid hll
    have HTB:=Lib.hid (Ext.trans HT3.out b1)
    have HTW:=Lib.hid (ftwin_any (fun _=>True) ns ns.length cn An rfl wr (HNR.out.below b1))
    have HLO : Hid (w.heap.size ≤ W3.heap.size ∧ W3.heap.size ≤ wr.heap.size):=⟨HT3.out.size,b1.size⟩
    clear hkM hall HO HO2 hll b1
    go_wp2_with fail
    refine HTW.out.mono ?_
    rintro e w9 ⟨⟨v9,rfl,fn9⟩,b9⟩
    obtain ⟨A9,c9,e9⟩:=OwnE.slice fn9
    subst e9
    have t9:=Ext.trans HTB.out b9
    have HT9:=Lib.hid (OwnE.step HTO.out b9)
    have HF9:=Lib.hid fn9
    have hm:=HM.out
    subst hm
    clear fn9 b9 HTW HTO HM
    go_wp2
    go_ret3
    exact ⟨DoneRes.mk rfl HLL.out (HF9.out.low (by have:=HLO.out;omega)) (told_low HT9.out HLO.out.1),t9⟩
end Go.Proofs.Ythapabjlhooglaa
namespace Go.Proofs.Ythapabjlhooglaa
open Go Go.RowKit
set_option linter.unusedSimpArgs false
set_option linter.unusedVariables false
theorem ftwo_any (w : World) : Calls Try.prog 26 #[] w fun e w'=>e = .returned cfgTwo.val ∧ Below w.heap.size w w':=by
 go_enter Try.func26,Try.ntmps26
 go_wp2
 exact bodyPost_ret (v:=cfgTwo.val) (results_cell_row rfl _ _ w.heap.size 24 #[.int .u32 0,.int .i64 3,.int .i64 1,.int .i64 2,.int .i64 12,.int .i64 2] (0,0) _ rfl (heap_alloc_new _ _) Try.underlying24 rfl (by kernel_rfl)) rfl ⟨rfl,Ext.alloc (Below.refl _ _) _⟩
theorem fempty_any (w : World) : Calls Try.prog 28 #[] w fun e w'=>e = .returned (.agg #[.int .u32 1,.int .u32 6,.int .i64 0,.int .i64 0,.slice none 0 0]) ∧ Below w.heap.size w w':=by
 go_enter Try.func28,Try.ntmps28
 go_wp2
 exact bodyPost_ret (v:=.agg #[.int .u32 1,.int .u32 6,.int .i64 0,.int .i64 0,.slice none 0 0]) (results_cell_row rfl _ _ w.heap.size 60 #[.int .u32 1,.int .u32 6,.int .i64 0,.int .i64 0,.slice none 0 0] (0,0) _ rfl (heap_alloc_new _ _) Try.underlying60 rfl (by kernel_rfl)) rfl ⟨rfl,Ext.alloc (Below.refl _ _) _⟩
def exF1 : FlTy.T:=newFl 1 2 0 1 zeros 0
def exF2 : FlTy.T:=newFl 2 1 0 1 [] 0
def exF1' : FlTy.T:=fPut exF1 0 2 5 []
set_option maxRecDepth 100000 in
theorem ex_add1 : addP cfgTwo [] 1 2 0 1 zeros 0 = ([exF1],0):=by rfl
set_option maxRecDepth 100000 in
theorem ex_add2 : addP cfgTwo [exF1] 2 1 0 1 [] 0 = ([exF1,exF2],0):=by rfl
set_option maxRecDepth 100000 in
theorem ex_may1 : mayP cfgTwo [exF1,exF2] 2 0 = (false,0):=by rfl
set_option maxRecDepth 100000 in
theorem ex_go1 : goP cfgTwo [exF1,exF2] 1 0 2 5 [] = ([exF1',exF2],0):=by rfl
set_option maxRecDepth 100000 in
theorem ex_done1 : doneP cfgTwo [exF1',exF2] 1 6 0 0 [] true false = ([exF2],[((1,[],1) : RpL)],0):=by kernel_rfl
theorem FlRes.of {lo L : Nat} {r : List FlTy.T × Int} {outs : List FlTy.T} {v : Int} {e : Ending} {w : World} (h : FlRes lo r e w) (hr : r = (outs,v)) (hl : outs.length = L) : ∃ A c,e = .returned (.tuple #[.slice A L c,.int .i64 v]) ∧ FlNew lo outs (.slice A L c) w:=by
 subst hr hl
 exact h
theorem DoneRes.of {lo L L2 : Nat} {r : List FlTy.T × List RpL × Int} {outs : List FlTy.T} {rs : List RpL} {v : Int} {e : Ending} {w : World} (h : DoneRes lo r e w) (hr : r = (outs,rs,v)) (hl : outs.length = L) (hl2 : rs.length = L2) : ∃ A c A2 c2,e = .returned (.tuple #[.slice A L c,.slice A2 L2 c2,.int .i64 v]) ∧ FlNew lo outs (.slice A L c) w ∧ Told lo rs (.slice A2 L2 c2) w:=by
 subst hr hl hl2
 exact h
theorem FlNew.rd {lo : Nat} {fs : List FlTy.T} {v : Value} {w : World} (h : FlNew lo fs v w) (hz : fs.length * 128 ≤ 140737488355328) : RdIn w (NewB lo w) (.sl FlTy) fs [v]:=OwnE.fl_rd h hz
theorem FlNew.step {lo : Nat} {fs : List FlTy.T} {v : Value} {w w' : World} (h : FlNew lo fs v w) (hb : Below w.heap.size w w') : FlNew lo fs v w':=OwnE.step h hb
theorem rdin_nilF (w : World) (S : Nat → Prop) : RdIn w S (.sl FlTy) [] [.slice none 0 0]:=rdin_sl.2 ⟨none,0,rfl,by simp,by simp [maxLen],by simp,.inl rfl⟩
theorem rdin_nilV (w : World) (S : Nat → Prop) : RdIn w S (.sl LvTy) [] [.slice none 0 0]:=rdin_sl.2 ⟨none,0,rfl,by simp,by simp [maxLen],by simp,.inl rfl⟩
theorem told_at {lo : Nat} {rs : List RpL} {A : Option Addr} {n c : Nat} {w : World} (h : Told lo rs (.slice A n c) w) {j : Nat} (hj : j < rs.length) : ∃ (g : Nat) (u : Value),A = some ⟨g,0,none⟩ ∧ w.cell? ⟨g,j * 4,none⟩ = some (.int .i64 (rs[j]).1) ∧ w.cell? ⟨g,j * 4 + 1,none⟩ = some (.int .i64 0) ∧ w.cell? ⟨g,j * 4 + 2,none⟩ = some u ∧ w.cell? ⟨g,j * 4 + 3,none⟩ = some (.int .i64 (rs[j]).2.2) ∧ RdIn w (Iv lo w.heap.size) (.sl .byte) (rs[j]).2.1 [u]:=by
 obtain ⟨g,cap,es,Sj,e,_,hc,⟨u,rfl,hu⟩,hS,_⟩:=OwnE.at h hj
 injection e with e1 _ _
 refine ⟨g,u,e1,?_,hc 1 (by decide),hc 2 (by decide),hc 3 (by decide),hu.mono fun b hb=>(hS b hb).1⟩
 have h0:=hc 0 (by decide)
 rw [Nat.add_zero] at h0
 exact h0
theorem zeros_rd {w : World} {g : Nat} (h : NumRow w (Iv 0 w.heap.size) 5 (.slice (some ⟨g,0,none⟩) 128 128) (List.replicate 128 (.int .u8 0))) : RdIn w (fun _=>True) (.sl .byte) zeros [.slice (some ⟨g,0,none⟩) 128 128]:=by
 have e : List.replicate 128 (Value.int .u8 0) = zeros.map byteV:=by unfold zeros;rw [List.map_replicate];rfl
 rw [e] at h
 exact (h.rd (by rw [show zeros.length = 128 from rfl];omega)).mono fun _ _=>trivial
def BegunF (lo : Nat) (e : Ending) (w : World) : Prop:=∃ A c,e = .returned (.tuple #[.slice A 2 c,.bool true]) ∧ FlNew lo [exF1,exF2] (.slice A 2 c) w
set_option maxRecDepth 100000 in
set_option maxHeartbeats 4000000 in
theorem fbegun_any (w : World) : Calls Try.prog 25 #[] w fun e w'=>BegunF w.heap.size e w' ∧ Below w.heap.size w w':=by
 obtain ⟨iu,hu,hu0,hu1,hu2⟩:=minfo_u8
 have HADD1 : Hid (∀ (gz : Nat) (w : World),RdIn w (fun _=>True) (.sl .byte) zeros [.slice (some ⟨gz,0,none⟩) 128 128] → Calls Try.prog 11 #[cfgTwo.val,.slice none 0 0,.int .i64 1,.agg #[.int .u8 2,.int .i64 0,.int .i64 1,.slice (some ⟨gz,0,none⟩) 128 128],.int .u32 0] w fun e w'=>(∃ A c,e = .returned (.tuple #[.slice A 1 c,.int .i64 0]) ∧ FlNew w.heap.size [exF1] (.slice A 1 c) w') ∧ Below w.heap.size w w'):=fun gz w hz=>by
  refine Calls.mono (fadd_any (fun _=>True) cfgTwo [] 0 0 none rfl 1 ⟨by decide,by decide⟩ 2 0 1 (some ⟨gz,0,none⟩) 128 zeros 0 (by decide) w (rdin_nilF _ _) hz) ?_
  rintro e w' ⟨h,b⟩
  exact ⟨h.of ex_add1 rfl,b⟩
 have HADD2 : Hid (∀ (A : Option Addr) (c : Nat) (w : World),RdIn w (fun _=>True) (.sl FlTy) [exF1] [.slice A 1 c] → Calls Try.prog 11 #[cfgTwo.val,.slice A 1 c,.int .i64 2,.agg #[.int .u8 1,.int .i64 0,.int .i64 1,.slice none 0 0],.int .u32 0] w fun e w'=>(∃ A c,e = .returned (.tuple #[.slice A 2 c,.int .i64 0]) ∧ FlNew w.heap.size [exF1,exF2] (.slice A 2 c) w') ∧ Below w.heap.size w w'):=fun A c w hr=>by
  refine Calls.mono (fadd_any (fun _=>True) cfgTwo [exF1] 1 c A rfl 2 ⟨by decide,by decide⟩ 1 0 1 none 0 [] 0 (by decide) w hr (rdin_nilb (by unfold maxLen;omega) _)) ?_
  rintro e w' ⟨h,b⟩
  exact ⟨h.of ex_add2 rfl,b⟩
 go_enter Try.func25,Try.ntmps25
 go_upto_region 1 with fail
 refine wp_region_held_drew (S:=fun _=>True) (by kernel_rfl) trivial (fun hS=>?_)
 have bd:=Ext.drew (Below.refl w.heap.size w)
 generalize w.drew = wd at *
 refine wpAnyH_ready (rs:=[0,1]) (by kernel_rfl) (by simp) ?_
 refine AllReadyH.cons rfl (fun K hK=>?_) (AllReadyH.cons rfl (fun K hK=>?_) AllReadyH.nil)
 · rw [if_pos (by rfl)]
   go_simp
   refine (ftwo_any _).mono ?_
   rintro e wt ⟨rfl,bt⟩
   have tx:=Ext.trans bd bt
   refine hK.out _ _ trivial (fun hS'=>?_)
   clear hK K hS hS'
   have hS:=trivial
   try simp only [Act.put,zq0,zq1,zq2,zq3,zq4,zq5]
   refine wpAnyH_ready (rs:=[1]) (by kernel_rfl) (by simp) ?_
   refine AllReadyH.cons rfl (fun K hK=>?_) AllReadyH.nil
   rw [if_pos (by rfl)]
   refine wp_make_full wt (.const (.int .i64 128)) (.const (.int .i64 128)) 26 rfl wt.heap.size 5 iu (.int .u8 0) 1 Try.underlying26 hu hu0 hu1 .i64 .i64 128 128 128 rfl rfl rfl rfl (by rw [hu2];omega) (by unfold maxLen;omega) (Nat.le_refl _) ?_
   intro wm own gr
   have bm:=Ext.grown (Below.refl _ _) gr (by simp)
   have NR:=NumRow.of_make own
   skip
   refine hK.out _ _ trivial (fun hS'=>?_)
   clear hK K hS hS' gr own
   have hS:=trivial
   try simp only [Act.put,zq0,zq1,zq2,zq3,zq4,zq5]
   obtain ⟨gz,hgz⟩ : ∃ z : Nat,z = wt.heap.size:=⟨_,rfl⟩
   rw [← hgz] at NR ⊢
   clear hgz
   refine wpAnyH_take (i:=2) (v:=?_) rfl (by kernel_rfl) (by kernel_rfl) (by kernel_rfl) (fun _ _ _ h=>h) (Or.inl ⟨by rfl,?_⟩) hS ?_
   rotate_left
   · (intro w hSw;(try dsimp only at hSw);go_simp;(try with_reducible rfl))
   rotate_left
   simp only [Act.put,zq0,zq1,zq2,zq3,zq4,zq5]
   have tv:=Ext.trans tx bm
   have RZ : RdIn wm (fun _=>True) (.sl .byte) zeros [.slice (some ⟨gz,0,none⟩) 128 128]:=zeros_rd NR
   generalize wm = wv at *
   refine wpAnyH_ready (rs:=[3]) (by kernel_rfl) (by simp) ?_
   refine AllReadyH.cons rfl (fun K hK=>?_) AllReadyH.nil
   rw [if_pos (by rfl)]
   go_simp
   refine (HADD1.out gz wv RZ).mono ?_
   rintro e w1 ⟨⟨A1,c1,rfl,F1N⟩,b1⟩
   have t1:=Ext.trans tv b1
   have H1:=Lib.hid F1N
   have HZ1 : Hid (wv.heap.size ≤ w1.heap.size ∧ w.heap.size ≤ wv.heap.size):=⟨b1.size,tv.size⟩
   refine hK.out _ _ trivial (fun hS'=>?_)
   clear hK K hS hS' F1N RZ b1 tv
   have hS:=trivial
   try simp only [Act.put,zq0,zq1,zq2,zq3,zq4,zq5]
   refine wpAnyH_take (i:=4) (v:=?_) rfl (by kernel_rfl) (by kernel_rfl) (by kernel_rfl) (fun _ _ _ h=>h) (Or.inl ⟨by rfl,?_⟩) hS ?_
   rotate_left
   · (intro w hSw;(try dsimp only at hSw);go_simp;(try with_reducible rfl))
   rotate_left
   simp only [Act.put,zq0,zq1,zq2,zq3,zq4,zq5]
   refine wpAnyH_take (i:=5) (v:=?_) rfl (by kernel_rfl) (by kernel_rfl) (by kernel_rfl) (fun _ _ _ h=>h) (Or.inl ⟨by rfl,?_⟩) hS ?_
   rotate_left
   · (intro w hSw;(try dsimp only at hSw);go_simp;(try with_reducible rfl))
   rotate_left
   simp only [Act.put,zq0,zq1,zq2,zq3,zq4,zq5]
   refine wpAnyH_take (i:=6) (v:=?_) rfl (by kernel_rfl) (by kernel_rfl) (by kernel_rfl) (fun _ _ _ h=>h) (Or.inl ⟨by rfl,?_⟩) hS ?_
   rotate_left
   · (intro w hSw;(try dsimp only at hSw);go_simp;(try with_reducible rfl))
   rotate_left
   simp only [Act.put,zq0,zq1,zq2,zq3,zq4,zq5]
   refine wpAnyH_take (i:=7) (v:=?_) rfl (by kernel_rfl) (by kernel_rfl) (by kernel_rfl) (fun _ _ _ h=>h) (Or.inl ⟨by rfl,?_⟩) hS ?_
   rotate_left
   · (intro w hSw;(try dsimp only at hSw);go_simp;(try with_reducible rfl))
   rotate_left
   simp only [Act.put,zq0,zq1,zq2,zq3,zq4,zq5]
   refine wpAnyH_take (i:=8) (v:=?_) rfl (by kernel_rfl) (by kernel_rfl) (by kernel_rfl) (fun _ _ _ h=>h) (Or.inl ⟨by rfl,?_⟩) hS ?_
   rotate_left
   · (intro w hSw;(try dsimp only at hSw);go_simp;(try with_reducible rfl))
   rotate_left
   simp only [Act.put,zq0,zq1,zq2,zq3,zq4,zq5]
   refine wpAnyH_done (by kernel_rfl) ?_ _
   clear hS
   go_wp2_with fail
   refine (ftwo_any _).mono ?_
   rintro e w2 ⟨rfl,b2⟩
   have t2:=Ext.trans t1 b2
   have R2:=Lib.hid (((FlNew.rd H1.out (by decide)).below b2).mono (S':=fun _=>True) fun _ _=>trivial)
   clear b2 t1
   go_wp2_with fail
   refine (HADD2.out A1 c1 w2 R2.out).mono ?_
   rintro e w3 ⟨⟨A3,c3,rfl,F3N⟩,b3⟩
   have t3:=Ext.trans t2 b3
   have H3:=Lib.hid (FlNew.low F3N t2.size)
   clear F3N b3 t2 R2
   go_wp2
   go_ret2
   exact ⟨⟨A3,c3,rfl,H3.out⟩,t3⟩
 · rw [if_pos (by rfl)]
   refine wp_make_full wd (.const (.int .i64 128)) (.const (.int .i64 128)) 26 rfl wd.heap.size 5 iu (.int .u8 0) 1 Try.underlying26 hu hu0 hu1 .i64 .i64 128 128 128 rfl rfl rfl rfl (by rw [hu2];omega) (by unfold maxLen;omega) (Nat.le_refl _) ?_
   intro wm own gr
   have bm:=Ext.grown (Below.refl _ _) gr (by simp)
   have NR:=NumRow.of_make own
   skip
   refine hK.out _ _ trivial (fun hS'=>?_)
   clear hK K hS hS' gr own
   have hS:=trivial
   try simp only [Act.put,zq0,zq1,zq2,zq3,zq4,zq5]
   obtain ⟨gz,hgz⟩ : ∃ z : Nat,z = wd.heap.size:=⟨_,rfl⟩
   rw [← hgz] at NR ⊢
   clear hgz
   refine wpAnyH_take (i:=2) (v:=?_) rfl (by kernel_rfl) (by kernel_rfl) (by kernel_rfl) (fun _ _ _ h=>h) (Or.inl ⟨by rfl,?_⟩) hS ?_
   rotate_left
   · (intro w hSw;(try dsimp only at hSw);go_simp;(try with_reducible rfl))
   rotate_left
   simp only [Act.put,zq0,zq1,zq2,zq3,zq4,zq5]
   refine wpAnyH_ready (rs:=[0]) (by kernel_rfl) (by simp) ?_
   refine AllReadyH.cons rfl (fun K hK=>?_) AllReadyH.nil
   rw [if_pos (by rfl)]
   go_simp
   refine (ftwo_any _).mono ?_
   rintro e wt ⟨rfl,bt⟩
   have tv:=Ext.trans (Ext.trans bd bm) bt;have RZ : RdIn wt (fun _=>True) (.sl .byte) zeros [.slice (some ⟨gz,0,none⟩) 128 128]:=(zeros_rd NR).below bt
   refine hK.out _ _ trivial (fun hS'=>?_)
   clear hK K hS hS'
   have hS:=trivial
   try simp only [Act.put,zq0,zq1,zq2,zq3,zq4,zq5]
   generalize wt = wv at *
   refine wpAnyH_ready (rs:=[3]) (by kernel_rfl) (by simp) ?_
   refine AllReadyH.cons rfl (fun K hK=>?_) AllReadyH.nil
   rw [if_pos (by rfl)]
   go_simp
   refine (HADD1.out gz wv RZ).mono ?_
   rintro e w1 ⟨⟨A1,c1,rfl,F1N⟩,b1⟩
   have t1:=Ext.trans tv b1
   have H1:=Lib.hid F1N
   have HZ1 : Hid (wv.heap.size ≤ w1.heap.size ∧ w.heap.size ≤ wv.heap.size):=⟨b1.size,tv.size⟩
   refine hK.out _ _ trivial (fun hS'=>?_)
   clear hK K hS hS' F1N RZ b1 tv
   have hS:=trivial
   try simp only [Act.put,zq0,zq1,zq2,zq3,zq4,zq5]
   refine wpAnyH_take (i:=4) (v:=?_) rfl (by kernel_rfl) (by kernel_rfl) (by kernel_rfl) (fun _ _ _ h=>h) (Or.inl ⟨by rfl,?_⟩) hS ?_
   rotate_left
   · (intro w hSw;(try dsimp only at hSw);go_simp;(try with_reducible rfl))
   rotate_left
   simp only [Act.put,zq0,zq1,zq2,zq3,zq4,zq5]
   refine wpAnyH_take (i:=5) (v:=?_) rfl (by kernel_rfl) (by kernel_rfl) (by kernel_rfl) (fun _ _ _ h=>h) (Or.inl ⟨by rfl,?_⟩) hS ?_
   rotate_left
   · (intro w hSw;(try dsimp only at hSw);go_simp;(try with_reducible rfl))
   rotate_left
   simp only [Act.put,zq0,zq1,zq2,zq3,zq4,zq5]
   refine wpAnyH_take (i:=6) (v:=?_) rfl (by kernel_rfl) (by kernel_rfl) (by kernel_rfl) (fun _ _ _ h=>h) (Or.inl ⟨by rfl,?_⟩) hS ?_
   rotate_left
   · (intro w hSw;(try dsimp only at hSw);go_simp;(try with_reducible rfl))
   rotate_left
   simp only [Act.put,zq0,zq1,zq2,zq3,zq4,zq5]
   refine wpAnyH_take (i:=7) (v:=?_) rfl (by kernel_rfl) (by kernel_rfl) (by kernel_rfl) (fun _ _ _ h=>h) (Or.inl ⟨by rfl,?_⟩) hS ?_
   rotate_left
   · (intro w hSw;(try dsimp only at hSw);go_simp;(try with_reducible rfl))
   rotate_left
   simp only [Act.put,zq0,zq1,zq2,zq3,zq4,zq5]
   refine wpAnyH_take (i:=8) (v:=?_) rfl (by kernel_rfl) (by kernel_rfl) (by kernel_rfl) (fun _ _ _ h=>h) (Or.inl ⟨by rfl,?_⟩) hS ?_
   rotate_left
   · (intro w hSw;(try dsimp only at hSw);go_simp;(try with_reducible rfl))
   rotate_left
   simp only [Act.put,zq0,zq1,zq2,zq3,zq4,zq5]
   refine wpAnyH_done (by kernel_rfl) ?_ _
   clear hS
   go_wp2_with fail
   refine (ftwo_any _).mono ?_
   rintro e w2 ⟨rfl,b2⟩
   have t2:=Ext.trans t1 b2
   have R2:=Lib.hid (((FlNew.rd H1.out (by decide)).below b2).mono (S':=fun _=>True) fun _ _=>trivial)
   clear b2 t1
   go_wp2_with fail
   refine (HADD2.out A1 c1 w2 R2.out).mono ?_
   rintro e w3 ⟨⟨A3,c3,rfl,F3N⟩,b3⟩
   have t3:=Ext.trans t2 b3
   have H3:=Lib.hid (FlNew.low F3N t2.size)
   clear F3N b3 t2 R2
   go_wp2
   go_ret2
   exact ⟨⟨A3,c3,rfl,H3.out⟩,t3⟩
set_option maxRecDepth 100000 in
set_option maxHeartbeats 4000000 in
theorem falive_any (w : World) : Calls Try.prog 24 #[] w fun e w'=>e = .returned (.bool true) ∧ Below w.heap.size w w':=by
 have HMAY : Hid (∀ (A : Option Addr) (c : Nat) (w : World),RdIn w (fun _=>True) (.sl FlTy) [exF1,exF2] [.slice A 2 c] → Calls Try.prog 13 #[cfgTwo.val,.slice A 2 c,.int .i64 2,.int .i64 0] w fun e w'=>e = .returned (.tuple #[.bool false,.int .i64 0]) ∧ Below w.heap.size w w'):=fun A c w hr=>by
  have h:=fmay_any (fun _=>True) cfgTwo [exF1,exF2] 2 c A rfl 2 0 ⟨by decide,by decide⟩ w hr
  rw [ex_may1] at h
  exact h
 have HGO : Hid (∀ (A : Option Addr) (c : Nat) (w : World),RdIn w (fun _=>True) (.sl FlTy) [exF1,exF2] [.slice A 2 c] → Calls Try.prog 15 #[cfgTwo.val,.slice A 2 c,.int .i64 1,.int .i64 0,.int .u8 2,.int .u32 5,.slice none 0 0] w fun e w'=>(∃ A c,e = .returned (.tuple #[.slice A 2 c,.int .i64 0]) ∧ FlNew w.heap.size [exF1',exF2] (.slice A 2 c) w') ∧ Below w.heap.size w w'):=fun A c w hr=>by
  refine Calls.mono (fgo_any (fun _=>True) cfgTwo [exF1,exF2] 2 c A rfl 1 0 ⟨by decide,by decide⟩ 2 5 (by decide) none 0 [] w hr (rdin_nilb (by unfold maxLen;omega) _)) ?_
  rintro e w' ⟨h,b⟩
  exact ⟨h.of ex_go1 rfl,b⟩
 have HDO : Hid (∀ (A : Option Addr) (c : Nat) (w : World),RdIn w (fun _=>True) (.sl FlTy) [exF1',exF2] [.slice A 2 c] → Calls Try.prog 27 #[cfgTwo.val,.slice A 2 c,.agg #[.int .u32 1,.int .u32 6,.int .i64 0,.int .i64 0,.slice none 0 0],.bool true,.bool false] w fun e w'=>(∃ A c A2 c2,e = .returned (.tuple #[.slice A 1 c,.slice A2 1 c2,.int .i64 0]) ∧ FlNew w.heap.size [exF2] (.slice A 1 c) w' ∧ Told w.heap.size [((1,[],1) : RpL)] (.slice A2 1 c2) w') ∧ Below w.heap.size w w'):=fun A c w hr=>by
  refine Calls.mono (fdone_any (fun _=>True) (fun _=>True) cfgTwo [exF1',exF2] 2 c A rfl [] 0 0 none rfl 1 6 (by decide) (by decide) 0 0 ⟨by decide,by decide⟩ ⟨by decide,by decide⟩ true false w hr (rdin_nilV _ _)) ?_
  rintro e w' ⟨h,b⟩
  exact ⟨h.of ex_done1 rfl rfl,b⟩
 go_enter Try.func24,Try.ntmps24
 go_wp2_with fail
 refine (fbegun_any _).mono ?_
 rintro e w1 ⟨⟨A1,c1,rfl,n1⟩,t1⟩
 have H1:=Lib.hid n1
 clear n1
 go_wp2_with fail
 refine (ftwo_any _).mono ?_
 rintro e w2 ⟨rfl,b2⟩
 have H2:=Lib.hid (H1.out.step b2)
 have t2:=Ext.trans t1 b2
 clear b2 t1 H1
 go_wp2_with fail
 refine (HMAY.out A1 c1 w2 ((H2.out.rd (by decide)).mono fun _ _=>trivial)).mono ?_
 rintro e w3 ⟨rfl,b3⟩
 have H3:=Lib.hid (H2.out.step b3)
 have t3:=Ext.trans t2 b3
 clear b3 t2 H2
 go_wp2_with fail
 refine (ftwo_any _).mono ?_
 rintro e w4 ⟨rfl,b4⟩
 have H4:=Lib.hid (H3.out.step b4)
 have t4:=Ext.trans t3 b4
 clear b4 t3 H3
 go_wp2_with fail
 refine (HGO.out A1 c1 w4 ((H4.out.rd (by decide)).mono fun _ _=>trivial)).mono ?_
 rintro e w5 ⟨⟨A5,c5,rfl,n5⟩,b5⟩
 have H5:=Lib.hid n5
 have t5:=Ext.trans t4 b5
 clear b5 t4 n5 H4
 go_wp2_with fail
 refine (ftwo_any _).mono ?_
 rintro e w6 ⟨rfl,b6⟩
 have H6:=Lib.hid (H5.out.step b6)
 have t6:=Ext.trans t5 b6
 clear b6 t5 H5
 go_wp2_with fail
 refine (fempty_any _).mono ?_
 rintro e w7 ⟨rfl,b7⟩
 have H7:=Lib.hid (H6.out.step b7)
 have t7:=Ext.trans t6 b7
 clear b7 t6 H6
 go_wp2_with fail
 refine (HDO.out A5 c5 w7 ((H7.out.rd (by decide)).mono fun _ _=>trivial)).mono ?_
 rintro e w8 ⟨⟨A8,c8,A9,c9,rfl,_,told⟩,b8⟩
 have t8:=Ext.trans t7 b8
 obtain ⟨g,u,rfl,k0,k1,k2,k3,_⟩:=told_at told (j:=0) (by decide)
 rw [Nat.zero_mul,Nat.zero_add] at k3
 rw [Nat.zero_mul] at k0
 have k0 : w8.cell? ⟨g,0,none⟩ = some (.int .i64 1):=k0
 have k3 : w8.cell? ⟨g,3,none⟩ = some (.int .i64 1):=k3
 clear told k1 k2 b8 t7 H7
 go_wp2
 go_ret
 exact ⟨rfl,t8⟩
end Go.Proofs.Ythapabjlhooglaa
namespace Go.Proofs.Ythapabjlhooglaa
open Go Go.RowKit
set_option linter.unusedSimpArgs false
set_option linter.unusedVariables false
def AnyB (e : Ending) : Prop:=∃ b : Bool,e = .returned (.bool b)
end Go.Proofs.Ythapabjlhooglaa
namespace Go.Proofs.Ythapabjlhooglaa
open Go Go.RowKit
set_option linter.unusedSimpArgs false
set_option linter.unusedVariables false
section
variable {x : Cfg} {fs : List FlTy.T} {n b : Int} {k i : Nat} {dat : List UInt8}
theorem fl_mono (h : flB x fs = true) : ∀ (j i : Nat) (hj : j < fs.length) (hi : i < j),fN (fs[i]'(by omega)) < fN fs[j]
 | 0,i,_,hi=>absurd hi (Nat.not_lt_zero _)
 | j + 1,i,hj,hi=>by
   have h1:=((stB_iff hj).1 ((flB_iff.1 h).2.2 _ hj)).2.1 (by omega)
   have h1 : fN (fs[j]'(by omega)) < fN fs[j + 1]:=h1
   by_cases e : i = j
   · subst e;exact h1
   · exact Int.lt_trans (fl_mono h j i (by omega) (by omega)) h1
theorem oneB_put {f : FlTy.T} {s : UInt8} {q : Nat} {d : List UInt8} (h : oneB x f = true) (hi : (i : Int) < fM f) (hb : blkB (kI f) s q d.length = true) : oneB x (fPut f i s q d) = true:=by
 obtain ⟨m,hm,h8,him,l1,l2,l3⟩:=oneB_len h hi
 obtain ⟨a1,a2,a3,a4,a5,a6⟩:=oneB_iff.1 h
 refine oneB_iff.2 ⟨a1,a2,?_,?_,?_,?_⟩
 · show (((fS f).set i s).length : Int) = fM f
   rw [List.length_set];exact a3
 · show (((fB f).set i d).length : Int) = fM f
   rw [List.length_set];exact a4
 · show (((fQ f).set i q).length : Int) = _
   rw [List.length_set];exact a5
 · show blksB (kI f) ((fS f).set i s) ((fQ f).set i q) ((fB f).set i d) = true
   have a7:=(blksB_iff (by omega) (by omega)).1 a6
   refine (blksB_iff (by rw [List.length_set,List.length_set];omega) (by rw [List.length_set,List.length_set];omega)).2 fun j h1 h2 h3=>?_
   rw [List.length_set] at h1 h2 h3
   by_cases e : i = j
   · subst e
     simp only [List.getElem_set_self]
     exact hb
   · simp only [List.getElem_set_ne e]
     exact a7 j h1 h2 h3
theorem put_same {s : UInt8} {q : Nat} (hk : k < fs.length) : ∀ j (hj : j < fs.length),fN ((fs.set k (fPut fs[k] i s q dat))[j]'(by rw [List.length_set];exact hj)) = fN fs[j] ∧ kI ((fs.set k (fPut fs[k] i s q dat))[j]'(by rw [List.length_set];exact hj)) = kI fs[j] ∧ fA ((fs.set k (fPut fs[k] i s q dat))[j]'(by rw [List.length_set];exact hj)) = fA fs[j] ∧ fM ((fs.set k (fPut fs[k] i s q dat))[j]'(by rw [List.length_set];exact hj)) = fM fs[j]:=fun j hj=>by
 by_cases e : k = j
 · subst e
   simp only [List.getElem_set_self]
   exact ⟨rfl,rfl,rfl,rfl⟩
 · refine ⟨?_,?_,?_,?_⟩ <;> simp only [List.getElem_set_ne e]
theorem put_first {s : UInt8} {q : Nat} (hk : k < fs.length) {j : Nat} (hj : j < fs.length) : firstB (fs.set k (fPut fs[k] i s q dat)) j = firstB fs j:=by
 have h2 : j < (fs.set k (fPut fs[k] i s q dat)).length:=by rw [List.length_set];exact hj
 have h3 : firstB (fs.set k (fPut fs[k] i s q dat)) j = true ↔ firstB fs j = true:=by
  rw [firstB_iff h2,firstB_iff hj]
  refine forall_congr' fun a=>forall_congr' fun ha=>?_
  obtain ⟨_,p1,p2,p3⟩:=put_same (i:=i) (s:=s) (q:=q) (dat:=dat) hk a (by omega)
  obtain ⟨_,q1,q2,q3⟩:=put_same (i:=i) (s:=s) (q:=q) (dat:=dat) hk j hj
  unfold meetF
  rw [p1,p2,p3,q1,q2,q3]
 cases h4 : firstB fs j <;> cases h5 : firstB (fs.set k (fPut fs[k] i s q dat)) j <;> simp_all
theorem put_ok {s : UInt8} {q : Nat} (h : flB x fs = true) (hk : k < fs.length) (hi : (i : Int) < fM fs[k]) (hf : firstB fs k = true) (hb : blkB (kI fs[k]) s q dat.length = true) : flB x (fs.set k (fPut fs[k] i s q dat)) = true:=by
 refine flB_iff.2 ⟨(flB_iff.1 h).1,by rw [List.length_set];exact (flB_iff.1 h).2.1,fun j hj=>?_⟩
 have hj' : j < fs.length:=by rw [List.length_set] at hj;exact hj
 obtain ⟨h1,h2,h3⟩:=(stB_iff hj').1 ((flB_iff.1 h).2.2 _ hj')
 refine (stB_iff hj).2 ⟨?_,fun h0=>?_,fun hg=>?_⟩
 · by_cases e : k = j
   · subst e
     simp only [List.getElem_set_self]
     exact oneB_put h1 hi hb
   · simp only [List.getElem_set_ne e]
     exact h1
 · rw [(put_same (i:=i) (s:=s) (q:=q) (dat:=dat) hk (j - 1) (by omega)).1,(put_same (i:=i) (s:=s) (q:=q) (dat:=dat) hk j hj').1]
   exact h2 h0
 · rw [put_first hk hj']
   by_cases e : k = j
   · subst e;exact hf
   · simp only [List.getElem_set_ne e] at hg
     exact h3 hg
end
end Go.Proofs.Ythapabjlhooglaa
namespace Go.Proofs.Ythapabjlhooglaa
open Go Go.RowKit
set_option linter.unusedSimpArgs false
set_option linter.unusedVariables false
set_option maxRecDepth 100000 in
theorem lgreat_any (ga gq : Nat) (gt gu : Int) (L : Option Addr) (n lc : Nat) (w : World) :
 Calls Try.prog 30 #[.agg #[.int .u32 (ga : Int),.int .u32 (gq : Int),.int .i64 gt,.int .i64 gu,.slice L n lc]] w fun e w'=>AnyB e ∧ Below w.heap.size w w':=by
 have L0:=BoxOf.new w #[.int .u32 (ga : Int),.int .u32 (gq : Int),.int .i64 gt,.int .i64 gu,.slice L n lc] 60
 have t0:=Ext.alloc (Below.refl w.heap.size w) (.cells #[.int .u32 (ga : Int),.int .u32 (gq : Int),.int .i64 gt,.int .i64 gu,.slice L n lc] 60)
 go_enter Try.func30,Try.ntmps30
 go_upto_region 1 with fail
 generalize w.alloc (.cells #[.int .u32 (ga : Int),.int .u32 (gq : Int),.int .i64 gt,.int .i64 gu,.slice L n lc] 60) = W at *
 have x0:=L0.cell
 go_wp2
 go_ret
 exact ⟨⟨_,rfl⟩,t0⟩
end Go.Proofs.Ythapabjlhooglaa
namespace Go.Proofs.Ythapabjlhooglaa
open Go Go.RowKit
set_option linter.unusedSimpArgs false
set_option linter.unusedVariables false
theorem partF_cons (p : FlTy.T → Bool → Bool) (f : FlTy.T) (fs : List FlTy.T) (b : Bool) : partF p (f :: fs) b = if p f b = true then (f :: (partF p fs false).1,(partF p fs false).2) else ((partF p fs false).1,f :: (partF p fs false).2):=by rfl
end Go.Proofs.Ythapabjlhooglaa
namespace Go.Proofs.Ythapabjlhooglaa
open Go Go.RowKit
set_option linter.unusedSimpArgs false
set_option linter.unusedVariables false
theorem nt_at {w : World} {S : Nat → Prop} {xs : List Int} {A : Option Addr} {n c : Nat} (h : RdIn w S (.sl .int) xs [.slice A n c]) {k : Nat} (hk : k < xs.length) : ∃ b off,A = some ⟨b,off,none⟩ ∧ w.cell? ⟨b,off + k,none⟩ = some (.int .i64 (xs[k]'hk)):=flat_at (e:=.int) rfl h hk
theorem nt_max {w : World} {S : Nat → Prop} {ms : List Int} {v : Value} (h : RdIn w S (.sl .int) ms [v]) : ms.length ≤ maxLen:=by
 obtain ⟨A,c,e,h1,h2,_⟩:=rdin_sl.1 h
 exact Nat.le_trans h1 h2
def eqI (v : Int) (y : Int) : Bool:=v == y
set_option maxRecDepth 100000 in
set_option maxHeartbeats 2000000 in
theorem idxn_any (S : Nat → Prop) (ss : List Int) (A : Option Addr) (n c : Nat) (hn : ss.length = n) (v : Int) (w : World) (hg : RdIn w S (.sl .int) ss [.slice A n c]) :
 Calls Try.prog 88 #[.slice A n c,.int .i64 v] w fun e w'=>IdxIs (eqI v) ss e ∧ Below w.heap.size w w':=by
 have HG:=Lib.hid hg
 have HGM : Hid (n ≤ maxLen):=by have:=nt_max hg;show n ≤ maxLen;omega
 have HNL:=Lib.hid hn
 clear hg hn
 go_enter Try.func88,Try.ntmps88
 go_upto_region 1 with fail
 go_wp2
 obtain ⟨W,hW⟩ : ∃ z : World,z = w:=⟨_,rfl⟩
 have b0 : Below W.heap.size W w:=by rw [hW];exact Below.refl _ _
 have HWW:=Lib.hid hW
 rw [← hW] at HG
 clear hW
 go_loopw [5,8] (fun _ i wr=>∃ (j : Nat),j ≤ n ∧ i = .int .i64 j ∧ Below W.heap.size W wr ∧ Hid (∀ i,i < j → NotAt (eqI v) ss i)) (fun _ i _=>n - (intOf i).toNat)
 case atStart=>exact ⟨0,by omega,rfl,b0,fun i h=>absurd h (Nat.not_lt_zero _)⟩
 case round=>
  obtain ⟨j,hj,rfl,b1,HA⟩:=hrel
  clear b0
  have bw : Below w.heap.size w wr:=by have:=HWW.out;subst this;exact b1
  by_cases hlt : j < n
  · have hlf : j < ss.length:=by have:=HNL.out;omega
    obtain ⟨b,off,rfl,ks⟩:=nt_at (HG.out.below b1) hlf
    have HSK : Hid (NotAt (eqI v) ss j ↔ eqI v ss[j] = false):=⟨fun h=>h hlf,fun h _=>h⟩
    have HSY : Hid (eqI v ss[j] = true → IdxIs (eqI v) ss (.returned (.int .i64 (j : Int)))):=fun h=>IdxIs.at hlf h HA.out
    have HED : ∀ y,eqI v y = (v == y):=fun _=>rfl
    rw [HED] at HSK HSY
    generalize ss[j] = sn at *
    have HWJ:=next_wrap HGM.out hlt
    have HLJ:=Lib.hid hlt
    clear HED
    rcases Bool.eq_false_or_eq_true (v == sn) with e1 | e1
    · have HF:=Lib.hid (HSY.out e1)
      go_wp2
      go_ret
      exact ⟨HF.out,bw⟩
    · have HA' : Hid (∀ i,i < j + 1 → NotAt (eqI v) ss i):=by
       intro i hi
       by_cases h : i = j
       · subst h
         exact HSK.out.2 e1
       · exact HA.out i (by omega)
      go_wp2
      go_roundw
      case rel=>exact ⟨j + 1,HLJ.out,by first | exact round_same HWJ | go_num,b1,HA'⟩
      case measure=>first | exact round_less HWJ HLJ.out | (have h:=HLJ.out;simp [intOf];omega)
  · have HN:=Lib.hid (IdxIs.none (p:=eqI v) (fs:=ss) (j:=j) HA.out (by have:=HNL.out;omega))
    go_wp2
    go_ret
    exact ⟨HN.out,bw⟩
set_option maxRecDepth 100000 in
theorem hasn_any (S : Nat → Prop) (ss : List Int) (A : Option Addr) (n c : Nat) (hn : ss.length = n) (v : Int) (w : World) (hg : RdIn w S (.sl .int) ss [.slice A n c]) :
 Calls Try.prog 65 #[.slice A n c,.int .i64 v] w fun e w'=>e = .returned (.bool (ss.any (eqI v))) ∧ Below w.heap.size w w':=by
 have HC:=idxn_any S ss A n c hn v w hg
 unfold IdxIs at HC
 have HV:=Lib.hid (idxI_any (eqI v) ss)
 generalize idxI (eqI v) ss = iv at *
 have HC2:=Lib.hid HC
 clear HC hg hn
 go_enter Try.func65,Try.ntmps65
 go_wp2_with fail
 refine HC2.out.mono ?_
 rintro e w1 ⟨rfl,b1⟩
 go_wp2
 go_ret
 exact ⟨by rw [← HV.out];rfl,b1⟩
def dlB (bl : List Int) (a : Int) (s : UInt8) (i : Nat) : Bool:=decide (s.toNat = 1) && bl.any (eqI (a + (i : Int)))
def fDl (bl : List Int) (q : Nat) (f : FlTy.T) : Nat → FlTy.T
 | 0=>f
 | n + 1=>if dlB bl (fA f) ((fS f)[n]?.getD 0) n = true then fSetQ (fSetS (fDl bl q f n) n 2) n q else fDl bl q f n
theorem fDl_same (bl : List Int) (q : Nat) (f : FlTy.T) : ∀ n,(fN (fDl bl q f n) = fN f ∧ fK (fDl bl q f n) = fK f ∧ fA (fDl bl q f n) = fA f ∧ fM (fDl bl q f n) = fM f ∧ fD (fDl bl q f n) = fD f ∧ fB (fDl bl q f n) = fB f) ∧ (fS (fDl bl q f n)).length = (fS f).length ∧ (fQ (fDl bl q f n)).length = (fQ f).length ∧ ∀ i,n ≤ i → (fS (fDl bl q f n))[i]? = (fS f)[i]?
 | 0=>⟨⟨rfl,rfl,rfl,rfl,rfl,rfl⟩,rfl,rfl,fun _ _=>rfl⟩
 | n + 1=>by
   obtain ⟨h1,h2,h3,h4⟩:=fDl_same bl q f n
   unfold fDl
   split
   · refine ⟨h1,?_,?_,fun i hi=>?_⟩
     · show ((fS (fDl bl q f n)).set n 2).length = _
       rw [List.length_set,h2]
     · show ((fQ (fDl bl q f n)).set n q).length = _
       rw [List.length_set,h3]
     · show ((fS (fDl bl q f n)).set n 2)[i]? = _
       rw [List.getElem?_set_ne (by omega)]
       exact h4 i (by omega)
   · exact ⟨h1,h2,h3,fun i hi=>h4 i (by omega)⟩
theorem flCells_dl (bl : List Int) (q : Nat) (f : FlTy.T) (n : Nat) (a b c d : Value) : flCells (fDl bl q f n) a b c d = flCells f a b c d:=by
 obtain ⟨⟨h1,h2,h3,h4,_,_⟩,_⟩:=fDl_same bl q f n
 unfold flCells kI
 rw [h1,h2,h3,h4]
def fDeal (bl : List Int) (q : Nat) (f : FlTy.T) : FlTy.T:=fDl bl q f (fS f).length
def lDl (bl : List Int) (q : Nat) (fs : List FlTy.T) : Nat → List FlTy.T
 | 0=>fs
 | j + 1=>match fs[j]? with
   | some f=>(lDl bl q fs j).set j (fDeal bl q f)
   | none=>lDl bl q fs j
theorem lDl_next {bl : List Int} {q : Nat} {fs : List FlTy.T} {j : Nat} (hj : j < fs.length) : lDl bl q fs (j + 1) = (lDl bl q fs j).set j (fDeal bl q fs[j]):=by
 show (match fs[j]? with | some f=>(lDl bl q fs j).set j (fDeal bl q f) | none=>lDl bl q fs j) = _
 rw [List.getElem?_eq_getElem hj]
theorem lDl_len (bl : List Int) (q : Nat) (fs : List FlTy.T) : ∀ j,(lDl bl q fs j).length = fs.length
 | 0=>rfl
 | j + 1=>by
   show (match fs[j]? with | some f=>(lDl bl q fs j).set j (fDeal bl q f) | none=>lDl bl q fs j).length = _
   split
   · rw [List.length_set,lDl_len bl q fs j]
   · exact lDl_len bl q fs j
theorem lDl_at (bl : List Int) (q : Nat) (fs : List FlTy.T) : ∀ j i (hi : i < fs.length),(lDl bl q fs j)[i]? = some (if i < j then fDeal bl q fs[i] else fs[i])
 | 0,i,hi=>by rw [if_neg (by omega)];exact List.getElem?_eq_getElem hi
 | j + 1,i,hi=>by
   have ih:=lDl_at bl q fs j i hi
   by_cases hj : j < fs.length
   · rw [lDl_next hj]
     by_cases e : i = j
     · subst e
       rw [List.getElem?_set_self (by rw [lDl_len];exact hi),if_pos (by omega)]
     · rw [List.getElem?_set_ne (fun h=>e h.symm),ih]
       by_cases h2 : i < j
       · rw [if_pos h2,if_pos (by omega)]
       · rw [if_neg h2,if_neg (by omega)]
   · have e : lDl bl q fs (j + 1) = lDl bl q fs j:=by
      show (match fs[j]? with | some f=>(lDl bl q fs j).set j (fDeal bl q f) | none=>lDl bl q fs j) = _
      rw [List.getElem?_eq_none (by omega)]
     rw [e,ih,if_pos (by omega),if_pos (by omega)]
def dealP (x : Cfg) (fs : List FlTy.T) (bl : List Int) (q : Nat) : List FlTy.T × Int:=
 if flB x fs = true then (if 1000 < bl.length then ([],4) else if q = 0 then ([],2) else (lDl bl q fs fs.length,0)) else ([],8)
def DlIn (W1 : World) (Sj : Nat → Prop) (y : FlTy.T) (vd vs vq vx : Value) (hs : List Value) (T : Nat → Prop) (wx : World) : Prop:=
 FlEs wx Sj y vd vs vq vx hs T ∧ (∀ b,b < W1.heap.size → ¬ Sj b → wx.heap[b]? = W1.heap[b]?) ∧ W1.heap.size ≤ wx.heap.size
section
variable {W1 wx w' : World} {Sj T : Nat → Prop} {y : FlTy.T} {vd vs vq vx : Value} {hs : List Value}
theorem DlIn.next (h : DlIn W1 Sj y vd vs vq vx hs T wx) (hb : Below wx.heap.size wx w') (hl : ∀ b,Sj b → b < W1.heap.size) : DlIn W1 Sj y vd vs vq vx hs T w':=
 ⟨h.1.frame fun b hj=>hb.block b (Nat.lt_of_lt_of_le (hl b hj) h.2.2),fun b h1 h2=>(hb.block b (Nat.lt_of_lt_of_le h1 h.2.2)).trans (h.2.1 b h1 h2),Nat.le_trans h.2.2 hb.size⟩
theorem DlIn.box (h : DlIn W1 Sj y vd vs vq vx hs T wx) {g : Nat} {cs : Array Value} {t : TypeId} (hg : BoxOf W1 g cs t) (hn : ¬ Sj g) : BoxOf wx g cs t:=by
 unfold BoxOf at *
 rw [h.2.1 g (BoxOf.lt hg) hn]
 exact hg
theorem DlIn.done {F : Nat → Prop} {wr : World} (h : DlIn W1 Sj y vd vs vq vx hs T wx) (hw : Below wr.heap.size wr W1) (hF : ∀ b,F b → b < wr.heap.size) : (∀ b,F b → ¬ Sj b → wx.heap[b]? = wr.heap[b]?):=
 fun b h1 h2=>(h.2.1 b (Nat.lt_of_lt_of_le (hF b h1) hw.size) h2).trans (hw.block b (hF b h1))
end
set_option maxRecDepth 100000 in
set_option maxHeartbeats 8000000 in
theorem fdeal_any (S S2 : Nat → Prop) (x : Cfg) (fs : List FlTy.T) (N d : Nat) (B : Option Addr) (hN : fs.length = N) (bl : List Int) (nb cb : Nat) (Bl : Option Addr) (hnb : bl.length = nb) (q : Nat) (hq : q < 2 ^ 32) (w : World) (hr : RdIn w S (.sl FlTy) fs [.slice B N d]) (hb : RdIn w S2 (.sl .int) bl [.slice Bl nb cb]) :
 Calls Try.prog 33 #[x.val,.slice B N d,.slice Bl nb cb,.int .u32 (q : Int)] w fun e w'=>FlRes w.heap.size (dealP x fs bl q) e w' ∧ Below w.heap.size w w':=by
 have HX:=Lib.hid (fun (w : World) (hr : RdIn w S (.sl FlTy) fs [.slice B N d])=>fcheck_any S x fs N d B hN w hr)
 have HTW:=Lib.hid (fun (w : World) (hr : RdIn w S (.sl FlTy) fs [.slice B N d])=>ftwin_any S fs N d B hN w hr)
 have HHA:=Lib.hid (fun (v : Int) (w : World) (hb : RdIn w S2 (.sl .int) bl [.slice Bl nb cb])=>hasn_any S2 bl Bl nb cb hnb v w hb)
 have HON:=Lib.hid (fun (hc : flB x fs = true) (k : Nat) (hk : k < fs.length)=>((stB_iff hk).1 ((flB_iff.1 hc).2.2 k hk)).1)
 have HON2 : Hid (flB x fs = true → ∀ (k : Nat) (hk : k < fs.length) (i : Nat),i < (fS fs[k]).length → (0 ≤ fA fs[k] ∧ fA fs[k] ≤ 1000) ∧ ((fS fs[k]).length ≤ 8 ∧ (fQ fs[k]).length = (fS fs[k]).length)):=fun hc k hk i hi=>by
  have h1:=HON.out hc k hk
  have h3:=(oneB_iff.1 h1).2.2.1
  obtain ⟨m,hm,hm8,him,h5,h6,h7⟩:=oneB_len h1 (i:=i) (by omega)
  obtain ⟨_,_,_,_,ha,_⟩:=askCode_0 (oneB_code h1)
  exact ⟨ha,by omega,by omega⟩
 obtain ⟨mv,hmv⟩ : ∃ z,z = dealP x fs bl q:=⟨_,rfl⟩
 rw [← hmv]
 have HMV : Hid (mv = if flB x fs = true then (if 1000 < nb then ([],4) else if q = 0 then ([],2) else (lDl bl q fs N,0)) else ([],8)):=by show _ = _;rw [hmv,← hnb,← hN];rfl
 have HQ32:=Lib.hid hq
 have HNL:=Lib.hid hN
 have HNM : Hid (N ≤ maxLen):=by have:=fl_max hr;show N ≤ maxLen;omega
 clear hmv hq hnb hN HON
 obtain ⟨id,m',c,r,l,h⟩:=x
 unfold Cfg.val at *
 dsimp only at *
 have C0:=BoxOf.new w #[.int .u32 (id : Int),.int .i64 m',.int .i64 c,.int .i64 r,.int .i64 l,.int .i64 h] 24
 have t0:=Ext.alloc (Below.refl w.heap.size w) (.cells #[.int .u32 (id : Int),.int .i64 m',.int .i64 c,.int .i64 r,.int .i64 l,.int .i64 h] 24)
 have HR:=Lib.hid (hr.below t0)
 have HB:=Lib.hid (hb.below t0)
 clear hr hb
 go_enter Try.func33,Try.ntmps33
 go_upto_region 1 with fail
 generalize w.alloc (.cells #[.int .u32 (id : Int),.int .i64 m',.int .i64 c,.int .i64 r,.int .i64 l,.int .i64 h] 24) = W at *
 have x0:=C0.cell
 go_wp2_with fail
 refine (HX.out _ HR.out).mono ?_
 rintro e w1 ⟨he,b1⟩
 have t1:=Ext.trans t0 b1
 clear x0
 rcases okbad_cases he with ⟨hk,rfl⟩ | ⟨hk,rfl⟩
 rotate_left
 · have hm : mv = ([],8):=by rw [HMV.out,if_neg hk]
   subst hm
   clear he hk
   go_wp2
   go_ret2
   exact ⟨FlRes.bad,t1⟩
 have HK:=Lib.hid hk
 have HM1 : Hid (mv = if 1000 < nb then ([],4) else if q = 0 then ([],2) else (lDl bl q fs N,0)):=by show _ = _;rw [HMV.out,if_pos hk]
 have HR1:=Lib.hid (HR.out.below b1)
 have HB1:=Lib.hid (HB.out.below b1)
 clear he hk HX HR HB C0 t0 b1 HMV
 by_cases h1 : 1000 < nb
 · have hm : mv = ([],4):=by rw [HM1.out,if_pos h1]
   subst hm
   have h1' : (1000 : Int) < (nb : Int):=by omega
   go_wp2
   go_ret2
   exact ⟨FlRes.bad,t1⟩
 have h1' : ¬ (1000 : Int) < (nb : Int):=by omega
 have HM2 : Hid (mv = if q = 0 then ([],2) else (lDl bl q fs N,0)):=by show _ = _;rw [HM1.out,if_neg h1]
 clear HM1
 by_cases h2 : q = 0
 · have hm : mv = ([],2):=by rw [HM2.out,if_pos h2]
   subst hm
   have h2' : ((q : Int) == 0) = true:=by simp;omega
   have h2'' : (q == 0) = true:=by simp;omega
   clear h2
   go_wp2
   go_ret2
   exact ⟨FlRes.bad,t1⟩
 have h2' : ((q : Int) == 0) = false:=by simp;omega
 have h2'' : (q == 0) = false:=by simp;omega
 have HM : Hid (mv = (lDl bl q fs N,0)):=by show _ = _;rw [HM2.out,if_neg h2]
 clear HM2 h2
 go_wp2_with fail
 refine (HTW.out w1 HR1.out).mono ?_
 rintro e w2 ⟨⟨v2,rfl,fn2⟩,b2⟩
 obtain ⟨A,cA,hv2⟩:=OwnE.slice fn2
 rw [HNL.out] at hv2
 subst hv2
 have HB0:=Lib.hid HB1.out
 clear HTW HR1 HB1 h1 h1' h2' h2''
 obtain ⟨lo,hlo⟩ : ∃ z : Nat,z = w1.heap.size:=⟨_,rfl⟩
 have HLO:=Lib.hid hlo
 rw [← hlo] at fn2
 have F2 : FlNew lo (lDl bl q fs 0) (.slice A N cA) w2:=fn2
 clear fn2 hlo
 go_wp2
 go_loopw [31] (fun i wr=>∃ (j : Nat),j ≤ N ∧ i = .int .i64 (j : Int) ∧ Below w1.heap.size w1 wr ∧ Hid (FlNew lo (lDl bl q fs j) (.slice A N cA) wr)) (fun i _=>N - (intOf i).toNat)
 case atStart=>exact ⟨0,Nat.zero_le _,rfl,b2,F2⟩
 case round=>
  as_aux_lemma=>
  obtain ⟨j,hj,rfl,b3,HF⟩:=hrel
  clear b2 F2
  by_cases hlt : j < N
  · have hjf : j < fs.length:=by have:=HNL.out;omega
    have hjl : j < (lDl bl q fs j).length:=by rw [lDl_len];exact hjf
    obtain ⟨g,cap,es,Sj,hv,⟨hFg,hgb,hgl⟩,hcell,hE,hSj,hclose⟩:=OwnE.at HF.out hjl
    have hfj : (lDl bl q fs j)[j]'hjl = fs[j]:=by
     have h8:=lDl_at bl q fs j j hjf
     rw [if_neg (Nat.lt_irrefl j),List.getElem?_eq_getElem hjl] at h8
     exact Option.some.inj h8
    rw [hfj] at hE
    obtain ⟨vd,vs,vq,vx,hs,T,rfl,hE⟩:=hE
    have HNX:=Lib.hid (lDl_next (bl:=bl) (q:=q) hjf)
    have HFA:=Lib.hid (HON2.out HK.out j hjf)
    have HLJ:=Lib.hid hlt
    have HWJ:=next_wrap HNM.out hlt
    injection hv with hv1 hv2 hv3
    subst hv1 hv3
    generalize fs[j]'hjf = f at *
    have q0 : wr.cell? ⟨g,j * 8,none⟩ = some (.int .i64 (fN f)):=hcell 0 (by decide)
    have q1 : wr.cell? ⟨g,j * 8 + 1,none⟩ = some (.int .u8 (kI f)):=hcell 1 (by decide)
    have q2 : wr.cell? ⟨g,j * 8 + 2,none⟩ = some (.int .i64 (fA f)):=hcell 2 (by decide)
    have q3 : wr.cell? ⟨g,j * 8 + 3,none⟩ = some (.int .i64 (fM f)):=hcell 3 (by decide)
    have q4 : wr.cell? ⟨g,j * 8 + 4,none⟩ = some vd:=hcell 4 (by decide)
    have q5 : wr.cell? ⟨g,j * 8 + 5,none⟩ = some vs:=hcell 5 (by decide)
    have q6 : wr.cell? ⟨g,j * 8 + 6,none⟩ = some vq:=hcell 6 (by decide)
    have q7 : wr.cell? ⟨g,j * 8 + 7,none⟩ = some vx:=hcell 7 (by decide)
    obtain ⟨As,cs,es'⟩:=hE.st.slice
    rw [List.length_map] at es'
    obtain ⟨m,hm⟩ : ∃ z : Nat,z = (fS f).length:=⟨_,rfl⟩
    rw [← hm] at es'
    subst es'
    obtain ⟨Aq,cq,eq'⟩:=hE.sq.slice
    obtain ⟨lq,hlq⟩ : ∃ z : Nat,z = ((fQ f).map seqV).length:=⟨_,rfl⟩
    rw [← hlq] at eq'
    subst eq'
    obtain ⟨Ax,cx,ex'⟩:=hE.row.slice
    obtain ⟨lx,hlx⟩ : ∃ z : Nat,z = hs.length:=⟨_,rfl⟩
    rw [← hlx] at ex'
    subst ex'
    obtain ⟨Ad,cd,ed'⟩:=bytesV hE.dat
    obtain ⟨ld,hld⟩ : ∃ z : Nat,z = (fD f).length:=⟨_,rfl⟩
    rw [← hld] at ed'
    subst ed'
    clear hlq hlx hld
    have HMS:=Lib.hid hm
    have HSJ : Hid (∀ b,Sj b → (lo ≤ b ∧ b < wr.heap.size) ∧ b ≠ g):=fun b hb=>⟨(hSj b hb).1,(hSj b hb).2⟩
    have HCL:=Lib.hid hclose
    have HE:=Lib.hid hE
    clear hm hcell hclose hE hSj hfj hjl hFg hgb hgl hv2
    have bA:=Ext.alloc (Below.refl wr.heap.size wr) (.cells #[.int .i64 (fN f),.int .u8 (kI f),.int .i64 (fA f),.int .i64 (fM f),.slice Ad ld cd,.slice As m cs,.slice Aq lq cq,.slice Ax lx cx] 67)
    have G0:=BoxOf.new wr #[.int .i64 (fN f),.int .u8 (kI f),.int .i64 (fA f),.int .i64 (fM f),.slice Ad ld cd,.slice As m cs,.slice Aq lq cq,.slice Ax lx cx] 67
    have HMM : Hid (m ≤ maxLen):=by
     obtain ⟨_,cap2,e2,h3,h4,_⟩:=HE.out.st
     rw [List.length_map] at h3
     show m ≤ maxLen
     have:=HMS.out
     omega
    go_upto_region 12 with fail
    generalize wr.alloc (.cells #[.int .i64 (fN f),.int .u8 (kI f),.int .i64 (fA f),.int .i64 (fM f),.slice Ad ld cd,.slice As m cs,.slice Aq lq cq,.slice Ax lx cx] 67) = wa at *
    obtain ⟨gf,hgf⟩ : ∃ z : Nat,z = wr.heap.size:=⟨_,rfl⟩
    have HGF:=Lib.hid hgf
    rw [← hgf] at G0 ⊢
    have b4:=Ext.trans b3 bA
    have HD0 : Hid (DlIn wa Sj (fDl bl q f 0) (.slice Ad ld cd) (.slice As m cs) (.slice Aq lq cq) (.slice Ax lx cx) hs T wa):=⟨HE.out.frame fun b hb=>bA.block b (HSJ.out b hb).1.2,fun _ _ _=>rfl,Nat.le_refl _⟩
    have x1:=G0.cell
    have HBA:=Lib.hid bA
    have HG0:=Lib.hid G0
    clear q0 q1 q2 q3 q4 q5 q6 q7 bA hgf G0 HE
    go_wp2
    clear x1
    go_loopw [38] (fun i wx=>∃ (k : Nat),k ≤ m ∧ i = .int .i64 (k : Int) ∧ Below w1.heap.size w1 wx ∧ Hid (DlIn wa Sj (fDl bl q f k) (.slice Ad ld cd) (.slice As m cs) (.slice Aq lq cq) (.slice Ax lx cx) hs T wx)) (fun i _=>m - (intOf i).toNat)
    case atStart=>exact ⟨0,Nat.zero_le _,rfl,b4,HD0.out⟩
    case round=>
     as_aux_lemma=>
     obtain ⟨k,hk,rfl,b5,HD⟩:=hrel
     clear b4 HD0 b3
     have x1:=(HD.out.box HG0.out (fun h=>by have:=(HSJ.out gf h).1.2;have:=HGF.out;omega)).cell
     by_cases hlk : k < m
     · have hks : k < (fS f).length:=by have:=HMS.out;omega
       obtain ⟨ha,hm8,hql⟩:=HFA.out k hks
       have hsm:=fDl_same bl q f k
       have hyk : k < (fS (fDl bl q f k)).length:=by rw [hsm.2.1];exact hks
       have hyq : k < (fQ (fDl bl q f k)).length:=by rw [hsm.2.2.1,hql];exact hks
       obtain ⟨gs,cs',cur1,ee1,hSs,_⟩:=HD.out.1.st.at (i:=k) (by rw [List.length_map];exact hyk)
       obtain ⟨gq,cq',cur2,ee2,hSq,_⟩:=HD.out.1.sq.at (i:=k) (by rw [List.length_map];exact hyq)
       rw [List.length_map,hsm.2.1,← HMS.out] at ee1
       rw [List.length_map,hsm.2.2.1,hql,← HMS.out] at ee2
       injection ee1 with ee1 _ ee3
       injection ee2 with ee21 ee22 ee23
       replace ee22:=ee22.symm
       subst ee1 ee3 ee21 ee22 ee23
       obtain ⟨_,kc,_,_⟩:=HD.out.1.st.slot (i:=k) (by rw [List.length_map];exact hyk)
       have hst9 : (fS (fDl bl q f k))[k]'hyk = (fS f)[k]:=by
        have h9:=hsm.2.2.2 k (Nat.le_refl k)
        rw [List.getElem?_eq_getElem hyk,List.getElem?_eq_getElem hks] at h9
        exact Option.some.inj h9
       rw [List.getElem_map,hst9] at kc
       have HDN : Hid (fDl bl q f (k + 1) = if dlB bl (fA f) ((fS f)[k]) k = true then fSetQ (fSetS (fDl bl q f k) k 2) k q else fDl bl q f k):=by
        show (if dlB bl (fA f) ((fS f)[k]?.getD 0) k = true then _ else _) = _
        rw [List.getElem?_eq_getElem hks]
        rfl
       have HDB : Hid (dlB bl (fA f) ((fS f)[k]) k = (decide (((fS f)[k]).toNat = 1) && bl.any (eqI (fA f + (k : Int))))):=rfl
       obtain ⟨st,hst⟩ : ∃ z : Nat,z = ((fS f)[k]).toNat:=⟨_,rfl⟩
       rw [← hst] at HDB
       obtain ⟨db,hdb⟩ : ∃ z : Bool,z = dlB bl (fA f) ((fS f)[k]) k:=⟨_,rfl⟩
       rw [← hdb] at HDB HDN
       clear hdb
       replace kc : wr.cell? ⟨gs,k,none⟩ = some (.int .u8 (st : Int)):=by rw [kc,hst];rfl
       have HWK:=next_wrap HMM.out hlk
       have HLK:=Lib.hid hlk
       have hwa : wrap64 (fA f + (k : Int)) = fA f + (k : Int):=IntWalk.wrap64_in _ (by omega)
       have HSS:=Lib.hid (And.intro hSs (And.intro hSq (And.intro hyk hyq)))
       clear hst hst9 hsm ha hm8 hql hSs hSq hyk hyq hks
       by_cases hs1 : st = 1
       rotate_left
       · have e1 : ((st : Int) == 1) = false:=by simp;omega
         have e1' : (st == 1) = false:=by simpa using hs1
         have HF9 : Hid (fDl bl q f (k + 1) = fDl bl q f k):=by show _ = _;rw [HDN.out,HDB.out,decide_eq_false hs1];rfl
         clear hs1 hwa
         go_wp2
         go_roundw
         case rel=>exact ⟨k + 1,HLK.out,by first | exact round_same HWK | go_num,b5,by rw [HF9.out];exact HD.out⟩
         case measure=>first | exact round_less HWK HLK.out | (have h:=HLK.out;simp [intOf];omega)
       have e1 : ((st : Int) == 1) = true:=by simp;omega
       have e1' : (st == 1) = true:=by simpa using hs1
       obtain ⟨hv,hhv⟩ : ∃ z : Bool,z = bl.any (eqI (fA f + (k : Int))):=⟨_,rfl⟩
       have HF9 : Hid (fDl bl q f (k + 1) = if hv = true then fSetQ (fSetS (fDl bl q f k) k 2) k q else fDl bl q f k):=by show _ = _;rw [HDN.out,HDB.out,decide_eq_true hs1,Bool.true_and,hhv]
       have HCA:=Lib.hid (HHA.out (fA f + (k : Int)) wr (HB0.out.below b5))
       rw [← hhv] at HCA
       clear hs1 hhv HDN HDB
       go_wp2_with fail
       refine HCA.out.mono ?_
       rintro e w6 ⟨rfl,b6⟩
       have HD6:=Lib.hid (HD.out.next b6 (fun b hb=>Nat.lt_of_lt_of_le (HSJ.out b hb).1.2 HBA.out.size))
       have b7:=Ext.trans b5 b6
       clear x1 kc HCA HD b5 b6 hwa e1 e1'
       cases hv with
       | false=>
         go_wp2
         go_roundw
         case rel=>exact ⟨k + 1,HLK.out,by first | exact round_same HWK | go_num,b7,by rw [HF9.out];exact HD6.out⟩
         case measure=>first | exact round_less HWK HLK.out | (have h:=HLK.out;simp [intOf];omega)
       | true=>
       go_upto_region 17 with fail
       have bd:=Ext.drew (Below.refl w6.heap.size w6)
       have HD7:=Lib.hid (HD6.out.next bd (fun b hb=>Nat.lt_of_lt_of_le (HSJ.out b hb).1.2 HBA.out.size))
       have b8:=Ext.trans b7 bd
       have B7:=HD7.out.box HG0.out (fun h=>by have:=(HSJ.out gf h).1.2;have:=HGF.out;omega)
       have x7:=B7.cell
       refine wp_region_held_drew (S:=fun w'=>∀ o,w'.cell? ⟨gf,o,none⟩ = (#[.int .i64 (fN f),.int .u8 (kI f),.int .i64 (fA f),.int .i64 (fM f),.slice Ad ld cd,.slice (some ⟨gs,0,none⟩) m cs,.slice (some ⟨gq,0,none⟩) m cq,.slice Ax lx cx] : Array Value).toList[o]?) (by kernel_rfl) x7 (fun hS=>?_)
       generalize w6.drew = wd at *
       clear b7 bd HD6 x7
       refine wpAnyH_take (i:=0) (v:=?_) rfl (by kernel_rfl) (by kernel_rfl) (by kernel_rfl) (fun _ _ _ h=>h) (Or.inl ⟨by rfl,?_⟩) hS ?_
       rotate_left
       · (intro w hSw;(try dsimp only at hSw);go_simp;(try with_reducible rfl))
       rotate_left
       simp only [Act.put,zq0,zq1,zq2,zq3,zq4,zq5]
       refine wpAnyH_take (i:=1) (v:=?_) rfl (by kernel_rfl) (by kernel_rfl) (by kernel_rfl) (fun _ _ _ h=>h) (Or.inl ⟨by rfl,?_⟩) hS ?_
       rotate_left
       · (intro w hSw;(try dsimp only at hSw);go_simp;(try with_reducible rfl))
       rotate_left
       simp only [Act.put,zq0,zq1,zq2,zq3,zq4,zq5]
       refine wpAnyH_take (i:=2) (v:=?_) rfl (by kernel_rfl) (by kernel_rfl) (by kernel_rfl) (fun _ _ _ h=>h) (Or.inl ⟨by rfl,?_⟩) hS ?_
       rotate_left
       · (intro w hSw;(try dsimp only at hSw);go_simp;(try with_reducible rfl))
       rotate_left
       simp only [Act.put,zq0,zq1,zq2,zq3,zq4,zq5]
       refine wpAnyH_take (i:=3) (v:=?_) rfl (by kernel_rfl) (by kernel_rfl) (by kernel_rfl) (fun _ _ _ h=>h) (Or.inl ⟨by rfl,?_⟩) hS ?_
       rotate_left
       · (intro w hSw;(try dsimp only at hSw);go_simp;(try with_reducible rfl))
       rotate_left
       simp only [Act.put,zq0,zq1,zq2,zq3,zq4,zq5]
       refine wpAnyH_take (i:=4) (v:=?_) rfl (by kernel_rfl) (by kernel_rfl) (by kernel_rfl) (fun _ _ _ h=>h) (Or.inl ⟨by rfl,?_⟩) hS ?_
       rotate_left
       · (intro w hSw;(try dsimp only at hSw);go_simp;(try with_reducible rfl))
       rotate_left
       simp only [Act.put,zq0,zq1,zq2,zq3,zq4,zq5]
       refine wpAnyH_take (i:=5) (v:=?_) rfl (by kernel_rfl) (by kernel_rfl) (by kernel_rfl) (fun _ _ _ h=>h) (Or.inl ⟨by rfl,?_⟩) hS ?_
       rotate_left
       · (intro w hSw;(try dsimp only at hSw);go_simp;(try with_reducible rfl))
       rotate_left
       simp only [Act.put,zq0,zq1,zq2,zq3,zq4,zq5]
       refine wpAnyH_ready (rs:=[6]) (by kernel_rfl) (by simp) ?_
       refine AllReadyH.cons rfl (fun K hK=>?_) AllReadyH.nil
       rw [if_pos (by rfl)]
       obtain ⟨_,kc,kf,kl⟩:=HD7.out.1.st.slot (i:=k) (by rw [List.length_map];exact HSS.out.2.2.1)
       go_simp
       have E8 : FlEs (wd.setCell ⟨gs,k,none⟩ (.int .u8 2)) _ _ _ _ _ _ _ _:=HD7.out.1.setS HSS.out.2.2.1 2
       have h8 : (wd.setCell ⟨gs,k,none⟩ (.int .u8 2)).heap[gf]? = wd.heap[gf]?:=Below.heap_setCell _ _ _ _ (show gf ≠ gs from fun e=>by have:=(HSJ.out gs HSS.out.1).1.2;have:=HGF.out;omega)
       have B8 : BoxOf (wd.setCell ⟨gs,k,none⟩ (.int .u8 2)) gf #[.int .i64 (fN f),.int .u8 (kI f),.int .i64 (fA f),.int .i64 (fM f),.slice Ad ld cd,.slice (some ⟨gs,0,none⟩) m cs,.slice (some ⟨gq,0,none⟩) m cq,.slice Ax lx cx] 67:=by unfold BoxOf at *;rw [h8];exact B7
       have K8 : Hid (∀ b,b < wa.heap.size → ¬ Sj b → (wd.setCell ⟨gs,k,none⟩ (.int .u8 2)).heap[b]? = wa.heap[b]?):=fun b hb hn=>(Below.heap_setCell _ _ _ _ (fun e=>hn (by rw [e];exact HSS.out.1))).trans (HD7.out.2.1 b hb hn)
       have Z8 : (wd.setCell ⟨gs,k,none⟩ (.int .u8 2)).heap.size = wd.heap.size:=msize _ _ _
       have t8:=Lib.hid (Below.setCell (p:=⟨gs,k,none⟩) b8 (show w1.heap.size ≤ gs by have:=(HSJ.out gs HSS.out.1).1.1;have:=HLO.out;omega) (.int .u8 2))
       refine hK.out _ _ B8.cell (fun hS'=>?_)
       clear hK K hS kc kf kl h8 B7 b8
       have hS:=hS'
       clear hS'
       try simp only [Act.put,zq0,zq1,zq2,zq3,zq4,zq5]
       generalize wd.setCell ⟨gs,k,none⟩ (.int .u8 2) = w8 at *
       have hkm:=HLK.out
       refine wpAnyH_take (i:=7) (v:=?_) rfl (by kernel_rfl) (by kernel_rfl) (by kernel_rfl) (fun _ _ _ h=>h) (Or.inl ⟨by rfl,?_⟩) hS ?_
       rotate_left
       · (intro w hSw;(try dsimp only at hSw);go_simp;(try with_reducible rfl))
       rotate_left
       simp only [Act.put,zq0,zq1,zq2,zq3,zq4,zq5]
       refine wpAnyH_ready (rs:=[8]) (by kernel_rfl) (by simp) ?_
       refine AllReadyH.cons rfl (fun K hK=>?_) AllReadyH.nil
       rw [if_pos (by rfl)]
       have hyq8 : k < (fQ (fSetS (fDl bl q f k) k 2)).length:=HSS.out.2.2.2
       obtain ⟨_,kc,kf,kl⟩:=E8.sq.slot (i:=k) (by rw [List.length_map];exact hyq8)
       go_simp
       have E9 : FlEs (w8.setCell ⟨gq,k,none⟩ (.int .u32 (q : Int))) _ _ _ _ _ _ _ _:=E8.setQ hyq8 q HQ32.out
       have h9 : (w8.setCell ⟨gq,k,none⟩ (.int .u32 (q : Int))).heap[gf]? = w8.heap[gf]?:=Below.heap_setCell _ _ _ _ (show gf ≠ gq from fun e=>by have:=(HSJ.out gq HSS.out.2.1).1.2;have:=HGF.out;omega)
       have B9 : BoxOf (w8.setCell ⟨gq,k,none⟩ (.int .u32 (q : Int))) gf #[.int .i64 (fN f),.int .u8 (kI f),.int .i64 (fA f),.int .i64 (fM f),.slice Ad ld cd,.slice (some ⟨gs,0,none⟩) m cs,.slice (some ⟨gq,0,none⟩) m cq,.slice Ax lx cx] 67:=by unfold BoxOf at *;rw [h9];exact B8
       have K9 : Hid (∀ b,b < wa.heap.size → ¬ Sj b → (w8.setCell ⟨gq,k,none⟩ (.int .u32 (q : Int))).heap[b]? = wa.heap[b]?):=fun b hb hn=>(Below.heap_setCell _ _ _ _ (fun e=>hn (by rw [e];exact HSS.out.2.1))).trans (K8.out b hb hn)
       have Z9 : (w8.setCell ⟨gq,k,none⟩ (.int .u32 (q : Int))).heap.size = wd.heap.size:=(msize _ _ _).trans Z8
       have t9:=Lib.hid (Below.setCell (p:=⟨gq,k,none⟩) t8.out (show w1.heap.size ≤ gq by have:=(HSJ.out gq HSS.out.2.1).1.1;have:=HLO.out;omega) (.int .u32 (q : Int)))
       refine hK.out _ _ B9.cell (fun hS'=>?_)
       clear hK K hS kc kf kl h9 B8 hS' hkm E8 K8 Z8 t8
       try simp only [Act.put,zq0,zq1,zq2,zq3,zq4,zq5]
       generalize w8.setCell ⟨gq,k,none⟩ (.int .u32 (q : Int)) = w9 at *
       refine wpAnyH_done (by kernel_rfl) ?_ _
       have HD9 : Hid (DlIn wa Sj (fDl bl q f (k + 1)) (.slice Ad ld cd) (.slice (some ⟨gs,0,none⟩) m cs) (.slice (some ⟨gq,0,none⟩) m cq) (.slice Ax lx cx) hs T w9):=by
        show DlIn _ _ _ _ _ _ _ _ _ _
        rw [HF9.out]
        exact ⟨E9,K9.out,by rw [Z9];exact HD7.out.2.2⟩
       clear E9 K9 Z9 HD7 HF9 B9
       go_wp2
       go_roundw
       case rel=>exact ⟨k + 1,HLK.out,by first | exact round_same HWK | go_num,t9.out,HD9.out⟩
       case measure=>first | exact round_less HWK HLK.out | (have h:=HLK.out;simp [intOf];omega)
     · have hkm : k = m:=by omega
       have hfd : fDeal bl q f = fDl bl q f k:=by unfold fDeal;rw [← HMS.out,hkm]
       have HO:=HCL.out wr (fun _=>False) (fDeal bl q f) ⟨_,_,_,_,_,_,by rw [hfd];exact (flCells_dl bl q f k _ _ _ _).symm,by rw [hfd];exact HD.out.1.mono fun b hb=>.inl hb⟩ (HD.out.done HBA.out (fun b hb=>hb.2)) (fun b hb=>hb.elim)
       rw [← HNX.out] at HO
       have HON : Hid (FlNew lo (lDl bl q fs (j + 1)) (.slice (some ⟨g,0,none⟩) N cA) wr):=HO.mono fun b hb=>by
        rcases hb with hb | hb
        · exact ⟨hb.1,Nat.lt_of_lt_of_le hb.2 (Nat.le_trans HBA.out.size HD.out.2.2)⟩
        · exact hb.elim
       clear HO hfd HD HCL
       go_wp2
       go_roundw
       case rel=>exact ⟨j + 1,HLJ.out,by first | exact round_same HWJ | go_num,b5,HON.out⟩
       case measure=>first | exact round_less HWJ HLJ.out | (have h:=HLJ.out;simp [intOf];omega)
  · have hj' : j = N:=by omega
    subst hj'
    have t9:=Ext.trans t1 b3
    have HLL : Hid ((lDl bl q fs j).length = j):=by show _ = _;rw [lDl_len];exact HNL.out
    have hm:=HM.out
    subst hm
    go_wp2
    go_ret2
    exact ⟨FlRes.mk HLL.out (HF.out.low (by rw [HLO.out];exact t1.size)),t9⟩
end Go.Proofs.Ythapabjlhooglaa
namespace Go.Proofs.Ythapabjlhooglaa
open Go Go.RowKit
set_option linter.unusedSimpArgs false
set_option linter.unusedVariables false
def AheadR (f g : FlTy.T) : Prop:=fN f < fN g ∧ (goesB g = true → meetF f g = false)
theorem flB_pw {x : Cfg} {fs : List FlTy.T} : flB x fs = true ↔ x.Ok ∧ fs.length ≤ 8 ∧ (∀ f ∈ fs,oneB x f = true) ∧ fs.Pairwise AheadR:=by
 constructor
 · intro h
   obtain ⟨h1,h2,h3⟩:=flB_iff.1 h
   refine ⟨h1,h2,fun f hf=>?_,List.pairwise_iff_getElem.2 fun i j hi hj hij=>⟨fl_mono h j i hj hij,fun hg=>?_⟩⟩
   · obtain ⟨i,hi,rfl⟩:=List.getElem_of_mem hf
     exact ((stB_iff hi).1 (h3 i hi)).1
   · exact (firstB_iff hj).1 (((stB_iff hj).1 (h3 j hj)).2.2 hg) i hij
 · rintro ⟨h1,h2,h3,h4⟩
   rw [List.pairwise_iff_getElem] at h4
   refine flB_iff.2 ⟨h1,h2,fun i hi=>(stB_iff hi).2 ⟨h3 _ (List.getElem_mem hi),fun h0=>(h4 (i - 1) i (by omega) hi (by omega)).1,fun hg=>(firstB_iff hi).2 fun j hj=>(h4 j i (by omega) hi hj).2 hg⟩⟩
theorem kind4_none {x : Cfg} {k a y : Int} {n : Nat} (h : askCode x k a y n = 0) (hk : k = 4 ∨ k = 6) : y = 0:=by
 obtain ⟨_,hpl,_,hy,_,_⟩:=askCode_0 h
 unfold Placed at hpl
 rcases hk with rfl | rfl
 · rcases hpl with h1 | h1
   · exact absurd h1.1 (by decide)
   · omega
 · rcases hpl with h1 | h1
   · exact absurd h1.1 (by decide)
   · omega
theorem oneB_new {x : Cfg} {n : Int} {ki : UInt8} {a y : Int} {bs : List UInt8} {last : Nat} (hc : askCode x ((ki.toNat : Nat) : Int) a y bs.length = 0) (hn : 1 ≤ n) : oneB x (newFl n ki a y.toNat bs last) = true:=by
 obtain ⟨_,_,_,hy,_,_⟩:=askCode_0 hc
 have ey : ((y.toNat : Nat) : Int) = y:=by omega
 have hQ : (newSq ki y.toNat last).length = if ((ki.toNat : Nat) : Int) = 4 then 1 else y.toNat:=by
  unfold newSq
  split
  · rfl
  · exact List.length_replicate
 refine oneB_iff.2 ⟨?_,hn,?_,?_,?_,?_⟩
 · show askCode x ((ki.toNat : Nat) : Int) a ((y.toNat : Nat) : Int) bs.length = 0
   rw [ey];exact hc
 · show (((List.replicate y.toNat (0 : UInt8)).length : Nat) : Int) = ((y.toNat : Nat) : Int)
   rw [List.length_replicate]
 · show (((List.replicate y.toNat ([] : List UInt8)).length : Nat) : Int) = ((y.toNat : Nat) : Int)
   rw [List.length_replicate]
 · show (((newSq ki y.toNat last).length : Nat) : Int) = if ((ki.toNat : Nat) : Int) = 4 then 1 else ((y.toNat : Nat) : Int)
   rw [hQ]
   split <;> rfl
 · show blksB ((ki.toNat : Nat) : Int) (List.replicate y.toNat 0) (newSq ki y.toNat last) (List.replicate y.toNat []) = true
   by_cases h4 : ((ki.toNat : Nat) : Int) = 4
   · have : y.toNat = 0:=by have:=kind4_none hc (.inl h4);omega
     rw [this]
     rfl
   · have e : newSq ki y.toNat last = List.replicate y.toNat 0:=by unfold newSq;rw [if_neg h4]
     rw [e]
     refine (blksB_iff (by simp) (by simp)).2 fun i h1 h2 h3=>?_
     rw [List.getElem_replicate,List.getElem_replicate,List.getElem_replicate]
     unfold blkB
     split <;> rfl
theorem le_lastN {x : Cfg} {fs : List FlTy.T} (h : flB x fs = true) {f : FlTy.T} (hf : f ∈ fs) : fN f ≤ lastN fs:=by
 obtain ⟨i,hi,rfl⟩:=List.getElem_of_mem hf
 obtain ⟨K,hK⟩ : ∃ K,fs.length = K + 1:=⟨fs.length - 1,by omega⟩
 rw [lastN_at hK]
 by_cases e : i = K
 · subst e;exact Int.le_refl _
 · exact Int.le_of_lt (fl_mono h K i (by omega) (by omega))
theorem new_still {n a : Int} {ki : UInt8} {m : Nat} {bs : List UInt8} {last : Nat} : goesB (newFl n ki a m bs last) = false:=by
 show (List.replicate m (0 : UInt8)).any (fun s=>s != 0) = false
 rw [List.any_eq_false]
 intro s hs
 rw [(List.mem_replicate.1 hs).2]
 decide
theorem add_ok {x : Cfg} {fs : List FlTy.T} {n : Int} {ki : UInt8} {a y : Int} {bs : List UInt8} {last : Nat} (h : flB x fs = true) (hc : askCode x ((ki.toNat : Nat) : Int) a y bs.length = 0) (h1 : ¬ (n < 1 ∨ n ≤ lastN fs)) (h8 : ¬ fs.length = 8) : flB x (fs ++ [newFl n ki a y.toNat bs last]) = true:=by
 obtain ⟨g1,g2,g3,g4⟩:=flB_pw.1 h
 refine flB_pw.2 ⟨g1,by rw [List.length_append];simp;omega,fun f hf=>?_,List.pairwise_append.2 ⟨g4,List.pairwise_singleton _ _,fun f hf g hg=>?_⟩⟩
 · rcases List.mem_append.1 hf with hf | hf
   · exact g3 f hf
   · rw [List.mem_singleton.1 hf]
     exact oneB_new hc (by omega)
 · rw [List.mem_singleton.1 hg]
   refine ⟨?_,fun hg=>by rw [new_still] at hg;cases hg⟩
   have:=le_lastN h hf
   show fN f < n
   omega
def askOf (f : FlTy.T) : Int × Int × Int × Int:=(fN f,kI f,fA f,fM f)
theorem meet_askOf {f g f' g' : FlTy.T} (h : askOf f' = askOf f) (h2 : askOf g' = askOf g) : meetF f' g' = meetF f g:=by
 unfold askOf at h h2
 simp only [Prod.mk.injEq] at h h2
 unfold meetF
 rw [h.2.1,h.2.2.1,h.2.2.2,h2.2.1,h2.2.2.1,h2.2.2.2]
theorem go_ok {x : Cfg} {fs : List FlTy.T} {n b : Int} {s : UInt8} {q : Nat} {dat : List UInt8} (h0 : (goP x fs n b s q dat).2 = 0) : flB x (goP x fs n b s q dat).1 = true ∧ (goP x fs n b s q dat).1.map askOf = fs.map askOf:=by
 unfold goP at h0 ⊢
 split at h0
 rotate_left
 · exact absurd h0 (by decide)
 rename_i hfl
 rw [if_pos hfl]
 split at h0
 · exact absurd h0 (by decide)
 rename_i k hk
 obtain ⟨hkl,hkn,hka,hkm⟩:=fndP_some hk
 simp only [List.getElem?_eq_getElem hkl] at h0 ⊢
 split at h0
 rotate_left
 · exact absurd h0 (by decide)
 rename_i hc
 rw [if_pos hc]
 split at h0
 rotate_left
 · exact absurd h0 (by decide)
 rename_i hb
 rw [if_pos hb]
 refine ⟨put_ok hfl hkl (by omega) hc.1 hb,?_⟩
 show (fs.set k _).map askOf = _
 rw [List.map_set]
 have e : askOf (fPut fs[k] (b - fA fs[k]).toNat s q dat) = (fs.map askOf)[k]'(by rw [List.length_map];exact hkl):=by rw [List.getElem_map];rfl
 rw [e,List.set_getElem_self]
theorem fPut_same {g : FlTy.T} {n : Nat} {s : UInt8} {q : Nat} (h : n < (fB g).length) : fPut g n s q (fB g)[n] = fSetQ (fSetS g n s) n q:=by
 unfold fPut fSetB
 have e : (fB (fSetQ (fSetS g n s) n q)).set n (fB g)[n] = fB g:=List.set_getElem_self h
 rw [e]
 rfl
theorem fDl_ok {x : Cfg} {bl : List Int} {q : Nat} (hq : q ≠ 0) {f : FlTy.T} (h : oneB x f = true) : ∀ n,oneB x (fDl bl q f n) = true ∧ (goesB (fDl bl q f n) = true → goesB f = true)
 | 0=>⟨h,fun h=>h⟩
 | n + 1=>by
   obtain ⟨h1,h2⟩:=fDl_ok hq h n
   obtain ⟨⟨_,p2,_,p4,_,p6⟩,p7,p8,p9⟩:=fDl_same bl q f n
   unfold fDl
   split
   rotate_left
   · exact ⟨h1,h2⟩
   rename_i hh
   unfold dlB at hh
   rw [Bool.and_eq_true,decide_eq_true_eq] at hh
   have hn : n < (fS f).length:=by
    by_cases hn : n < (fS f).length
    · exact hn
    · rw [List.getElem?_eq_none (by omega)] at hh
      exact absurd hh.1 (by decide)
   rw [List.getElem?_eq_getElem hn] at hh
   have hs1 : ((fS f)[n]).toNat = 1:=hh.1
   have hg : goesB f = true:=by
    unfold goesB
    rw [List.any_eq_true]
    refine ⟨_,List.getElem_mem hn,?_⟩
    rw [bne_iff_ne]
    intro e
    rw [e] at hs1
    exact absurd hs1 (by decide)
   refine ⟨?_,fun _=>hg⟩
   have hM:=(oneB_iff.1 h1).2.2.1
   have hnM : (n : Int) < fM (fDl bl q f n):=by rw [← hM,p7];omega
   obtain ⟨m,e1,e2,e3,e4,e5,e6⟩:=oneB_len h1 hnM
   have hbk:=(blksB_iff (by omega) (by omega)).1 (oneB_iff.1 h1).2.2.2.2.2 n (by omega) (by omega) (by omega)
   have es : (fS (fDl bl q f n))[n]'(by omega) = (fS f)[n]:=by
    have h9:=p9 n (Nat.le_refl n)
    rw [List.getElem?_eq_getElem (by omega),List.getElem?_eq_getElem hn] at h9
    exact Option.some.inj h9
   rw [es] at hbk
   rw [← fPut_same (by omega)]
   refine oneB_put h1 hnM ?_
   unfold blkB at hbk ⊢
   rw [hs1] at hbk
   simp only [Bool.and_eq_true] at hbk
   obtain ⟨_,hbk⟩:=hbk
   by_cases hk : kI (fDl bl q f n) = 1
   · rw [if_pos hk] at hbk
     simp at hbk
   · rw [if_neg hk] at hbk ⊢
     rw [hbk]
     have : decide (0 < q) = true:=decide_eq_true (by omega)
     rw [this]
     rfl
theorem lDl_map {bl : List Int} {q : Nat} {fs : List FlTy.T} : lDl bl q fs fs.length = fs.map (fDeal bl q):=by
 refine List.ext_getElem? fun i=>?_
 by_cases hi : i < fs.length
 · rw [lDl_at bl q fs fs.length i hi,if_pos hi,List.getElem?_map,List.getElem?_eq_getElem hi]
   rfl
 · rw [List.getElem?_eq_none (by rw [lDl_len];omega),List.getElem?_eq_none (by rw [List.length_map];omega)]
theorem deal_ask {bl : List Int} {q : Nat} {f : FlTy.T} : askOf (fDeal bl q f) = askOf f:=by
 obtain ⟨⟨h1,h2,h3,h4,_,_⟩,_⟩:=fDl_same bl q f (fS f).length
 unfold askOf fDeal kI
 rw [h1,h2,h3,h4]
theorem deal_ok {x : Cfg} {fs : List FlTy.T} {bl : List Int} {q : Nat} (h0 : (dealP x fs bl q).2 = 0) : flB x (dealP x fs bl q).1 = true ∧ (dealP x fs bl q).1.map askOf = fs.map askOf:=by
 unfold dealP at h0 ⊢
 split at h0
 rotate_left
 · exact absurd h0 (by decide)
 rename_i hfl
 rw [if_pos hfl]
 split at h0
 · exact absurd h0 (by decide)
 rename_i h1
 rw [if_neg h1]
 split at h0
 · exact absurd h0 (by decide)
 rename_i h2
 rw [if_neg h2]
 show flB x (lDl bl q fs fs.length) = true ∧ (lDl bl q fs fs.length).map askOf = _
 rw [lDl_map]
 obtain ⟨g1,g2,g3,g4⟩:=flB_pw.1 hfl
 constructor
 · refine flB_pw.2 ⟨g1,by rw [List.length_map];exact g2,fun f hf=>?_,?_⟩
   · obtain ⟨g,hg,rfl⟩:=List.mem_map.1 hf
     exact (fDl_ok h2 (g3 g hg) _).1
   · rw [List.pairwise_map]
     refine g4.imp_of_mem fun {f g} hf hg hr=>⟨?_,fun hgo=>?_⟩
     · have e1 : fN (fDeal bl q f) = fN f:=congrArg (·.1) (deal_ask (bl:=bl) (q:=q) (f:=f))
       have e2 : fN (fDeal bl q g) = fN g:=congrArg (·.1) (deal_ask (bl:=bl) (q:=q) (f:=g))
       rw [e1,e2]
       exact hr.1
     · rw [meet_askOf deal_ask deal_ask]
       exact hr.2 ((fDl_ok h2 (g3 g hg) _).2 hgo)
 · rw [List.map_map]
   exact List.map_congr_left fun f _=>deal_ask
theorem partF_sub (p : FlTy.T → Bool → Bool) : ∀ (xs : List FlTy.T) (b : Bool),(partF p xs b).1.Sublist xs ∧ (partF p xs b).2.Sublist xs
 | [],b=>⟨List.Sublist.refl _,List.Sublist.refl _⟩
 | x :: xs,b=>by
   obtain ⟨h1,h2⟩:=partF_sub p xs false
   rw [partF_cons]
   split
   · exact ⟨h1.cons_cons x,h2.cons x⟩
   · exact ⟨h1.cons x,h2.cons_cons x⟩
theorem partF_yes (p : FlTy.T → Bool → Bool) : ∀ (xs : List FlTy.T) (b : Bool) (f : FlTy.T),f ∈ (partF p xs b).1 → ∃ c,p f c = true
 | [],b,f,h=>absurd h (by simp [partF])
 | x :: xs,b,f,h=>by
   rw [partF_cons] at h
   split at h
   · rename_i hp
     rcases List.mem_cons.1 h with h | h
     · exact ⟨b,by rw [h];exact hp⟩
     · exact partF_yes p xs false f h
   · exact partF_yes p xs false f h
theorem partF_or (p : FlTy.T → Bool → Bool) : ∀ (xs : List FlTy.T) (b : Bool) (f : FlTy.T),f ∈ xs → f ∈ (partF p xs b).1 ∨ f ∈ (partF p xs b).2
 | [],b,f,h=>absurd h (by simp)
 | x :: xs,b,f,h=>by
   rw [partF_cons]
   split
   · rcases List.mem_cons.1 h with h | h
     · exact .inl (by rw [h];exact List.mem_cons_self ..)
     · rcases partF_or p xs false f h with h | h
       · exact .inl (List.mem_cons_of_mem _ h)
       · exact .inr h
   · rcases List.mem_cons.1 h with h | h
     · exact .inr (by rw [h];exact List.mem_cons_self ..)
     · rcases partF_or p xs false f h with h | h
       · exact .inl h
       · exact .inr (List.mem_cons_of_mem _ h)
theorem partF_apart (p : FlTy.T → Bool → Bool) : ∀ (xs : List FlTy.T) (b : Bool),xs.Pairwise (fun f g=>fN f < fN g) → ∀ f ∈ (partF p xs b).1,∀ g ∈ (partF p xs b).2,fN f ≠ fN g
 | [],b,_,f,hf,g,_=>absurd hf (by simp [partF])
 | x :: xs,b,h,f,hf,g,hg=>by
   obtain ⟨h1,h2⟩:=List.pairwise_cons.1 h
   rw [partF_cons] at hf hg
   split at hf
   · rename_i hp
     rw [if_pos hp] at hg
     rcases List.mem_cons.1 hf with hf | hf
     · have:=h1 g (partF_mem (.inr hg))
       rw [hf];omega
     · exact partF_apart p xs false h2 f hf g hg
   · rename_i hp
     rw [if_neg hp] at hg
     rcases List.mem_cons.1 hg with hg | hg
     · have:=h1 f (partF_mem (.inl hf))
       rw [hg];omega
     · exact partF_apart p xs false h2 f hf g hg
theorem part_ok {x : Cfg} {fs : List FlTy.T} {p : FlTy.T → Bool → Bool} (h : flB x fs = true) : flB x (partF p fs true).2 = true:=by
 obtain ⟨g1,g2,g3,g4⟩:=flB_pw.1 h
 have hs:=(partF_sub p fs true).2
 exact flB_pw.2 ⟨g1,Nat.le_trans hs.length_le g2,fun f hf=>g3 f (hs.subset hf),g4.sublist hs⟩
theorem done_goes {x : Cfg} {f : FlTy.T} {ls : List LvTy.T} {back nolog b : Bool} (h : oneB x f = true) (hd : doneB ls back nolog f b = true) (hm : 0 < fM f) : goesB f = true:=by
 obtain ⟨h1,_,h3,h4,h5,h6⟩:=oneB_iff.1 h
 have k4 : kI f ≠ 4:=fun e=>by have:=kind4_none h1 (.inl e);omega
 have k6 : kI f ≠ 6:=fun e=>by have:=kind4_none h1 (.inr e);omega
 unfold doneB at hd
 rw [if_neg k4,if_neg k6] at hd
 rw [if_neg k4] at h5
 have hl : 0 < (fS f).length:=by omega
 have h7:=(blksDone_iff (by omega)).1 hd 0 hl hl (by omega)
 unfold goesB
 rw [List.any_eq_true]
 refine ⟨_,List.getElem_mem hl,?_⟩
 rw [bne_iff_ne]
 intro e
 rw [e] at h7
 unfold blkDone at h7
 simp at h7
end Go.Proofs.Ythapabjlhooglaa
