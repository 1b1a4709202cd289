/- What this claim needs of my texts, merged and shortened by a program (part 7). -/
import Derived.Test.YthapabjlhooglaaZFlightOrder6
namespace Go.Proofs.Ythapabjlhooglaa
open Go Go.RowKit Go.Maps
set_option linter.unusedSimpArgs false
set_option linter.unusedVariables false
def lvBad (st nd : Int) (gq n i : Nat) (sure : Bool) (v : LvTy.T) : Bool:=
 decide (lvS v < 0) || (decide (st ≤ lvS v) || (decide (lvN v < 2) || (decide (nd < lvN v) || (((lvQ v : Int) == 0) || (((lvQ v : Int) != IntKind.u32.wrap ((gq : Int) - ((n - i : Nat) : Int))) || (lvU v && !sure))))))
def lvF (st nd : Int) (gq n : Nat) : List LvTy.T → Nat → Int → Bool → Option (Int × Bool)
 | [],_,u,s=>some (u,s)
 | v :: vs,i,u,s=>if lvBad st nd gq n i s v = true then none else lvF st nd gq n vs (i + 1) (u + lvN v) (lvU v)
theorem lvF_step (st nd : Int) (gq n : Nat) : ∀ (xs : List LvTy.T) (v : LvTy.T) (i : Nat) (u : Int) (s : Bool),lvF st nd gq n (xs ++ [v]) i u s = (lvF st nd gq n xs i u s).bind fun p=>if lvBad st nd gq n (i + xs.length) p.2 v = true then none else some (p.1 + lvN v,lvU v)
 | [],v,i,u,s=>by simp [lvF]
 | y :: xs,v,i,u,s=>by
   rw [List.cons_append]
   unfold lvF
   split
   · rfl
   · rw [lvF_step st nd gq n xs v (i + 1),show i + 1 + xs.length = i + (y :: xs).length by rw [List.length_cons];omega]
theorem lvF_none (st nd : Int) (gq n : Nat) : ∀ (xs ys : List LvTy.T) (i : Nat) (u : Int) (s : Bool),lvF st nd gq n xs i u s = none → lvF st nd gq n (xs ++ ys) i u s = none
 | [],ys,i,u,s,h=>by cases h
 | x :: xs,ys,i,u,s,h=>by
   rw [List.cons_append]
   unfold lvF at h ⊢
   split at h
   · rename_i h1;rw [if_pos h1]
   · rename_i h1;rw [if_neg h1];exact lvF_none st nd gq n xs ys _ _ _ h
def logR (m c r l : Int) (ga gq : Nat) (gt gu : Int) (ls : List LvTy.T) : Bool:=
 ageB ga && (ageB gq && (!decide (gt < 0) && (!decide (l ≤ gt) && (!decide (l < (ls.length : Int)) && (!decide (l < gu) &&
  (match lvF (c * r) (m + 1) gq ls.length ls 0 0 true with
    | none=>false
    | some p=>(p.1 == gu) && (decide (ls.length < gq) && (homesB ls && roomB m l gu ls))))))))
set_option maxRecDepth 100000 in
set_option maxHeartbeats 16000000 in
theorem lright_any (S : Nat → Prop) (ls : List LvTy.T) (n lc : Nat) (L : Option Addr) (hn : ls.length = n) (gR : Nat) (ga gq : Nat) (hga : ga < 2 ^ 32) (hgq : gq < 2 ^ 32) (gt gu : Int) (hgt : IsInt gt) (hgu : IsInt gu) (id : Nat) (m c r l h : Int) (hx : (⟨id,m,c,r,l,h⟩ : Cfg).Ok) (w : World) (hb : BoxOf w gR #[.int .u32 (ga : Int),.int .u32 (gq : Int),.int .i64 gt,.int .i64 gu,.slice L n lc,.int .u32 (id : Int),.int .i64 m,.int .i64 c,.int .i64 r,.int .i64 l,.int .i64 h] 120) (hr : RdIn w S (.sl LvTy) ls [.slice L n lc]) :
 Calls Try.prog 64 #[.pointer (some ⟨gR,0,none⟩)] w fun e w'=>e = .returned (.bool (logR m c r l ga gq gt gu ls)) ∧ Below w.heap.size w w':=by
 have HN:=Lib.hid (need_ok ⟨id,m,c,r,l,h⟩ hx)
 have HST:=Lib.hid (stripes_ok ⟨id,m,c,r,l,h⟩ hx)
 obtain ⟨x1,x2,x3,x4,x5,x6,x7,x8,x9,x10⟩:=Cfg.bounds hx
 obtain ⟨x11,x12⟩:=Cfg.cr hx
 have HXB : Hid (3 ≤ m ∧ m ≤ 16 ∧ 1 ≤ c * r ∧ c * r ≤ 64 ∧ l ≤ 255):=⟨x1,x2,x11,x12,x10⟩
 have HRM:=Lib.hid (fun (w : World) (h9 : n ≤ 1000) (hb : BoxOf w gR #[.int .u32 (ga : Int),.int .u32 (gq : Int),.int .i64 gt,.int .i64 gu,.slice L n lc,.int .u32 (id : Int),.int .i64 m,.int .i64 c,.int .i64 r,.int .i64 l,.int .i64 h] 120) (hr : RdIn w S (.sl LvTy) ls [.slice L n lc])=>lroom_any S ls n lc L hn h9 gR ga gq gt gu id m c r l h hx w hb hr)
 have HHM:=Lib.hid (fun (w : World) (h9 : n ≤ 1000) (hb : BoxOf w gR #[.int .u32 (ga : Int),.int .u32 (gq : Int),.int .i64 gt,.int .i64 gu,.slice L n lc,.int .u32 (id : Int),.int .i64 m,.int .i64 c,.int .i64 r,.int .i64 l,.int .i64 h] 120) (hr : RdIn w S (.sl LvTy) ls [.slice L n lc])=>lhomes_any S ls n lc L hn h9 gR ga gq gt gu id m c r l h w hb hr)
 unfold Cfg.val at HN HST
 dsimp only at HN HST
 have HNL:=Lib.hid hn
 have HR:=Lib.hid hr
 have HNM : Hid (n ≤ maxLen):=by have:=lv_max hr;show _ ≤ _;omega
 obtain ⟨lb,hlb⟩ : ∃ z,z = logR m c r l ga gq gt gu ls:=⟨_,rfl⟩
 rw [← hlb]
 have HLB:=Lib.hid hlb
 have y0:=hb.cell
 have HII:=Lib.hid (And.intro hgt hgu)
 have HQQ:=Lib.hid (And.intro hga hgq)
 clear hlb hx x1 x2 x3 x4 x5 x6 x7 x8 x9 x10 x11 x12 hn hr hgt hgu hga hgq
 go_enter Try.func64,Try.ntmps64
 go_wp2_with fail
 refine (HST.out _).mono ?_
 rintro e w1 ⟨rfl,b1⟩
 have B1:=hb.next b1
 have y1:=B1.cell
 clear y0
 go_wp2_with fail
 refine (HN.out _).mono ?_
 rintro e w2 ⟨rfl,b2⟩
 have B2:=B1.next b2
 have t2:=Ext.trans b1 b2
 have y2:=B2.cell
 clear y1 HN HST B1 hb b1 b2
 go_upto_region 3 with fail
 have HLB2 : Hid (lb = (ageB ga && (ageB gq && (!decide (gt < 0) && (!decide (l ≤ gt) && (!decide (l < (n : Int)) && (!decide (l < gu) &&
  (match lvF (c * r) (m + 1) gq n ls 0 0 true with
    | none=>false
    | some p=>(p.1 == gu) && (decide (n < gq) && (homesB ls && roomB m l gu ls)))))))))):=by
  show _ = _
  rw [HLB.out]
  unfold logR
  rw [HNL.out]
 clear HLB
 obtain ⟨ba,hba⟩ : ∃ z : Bool,z = ageB ga:=⟨_,rfl⟩
 obtain ⟨bq,hbq⟩ : ∃ z : Bool,z = ageB gq:=⟨_,rfl⟩
 have HBA : Hid (∀ w,Calls Try.prog 85 #[.int .u32 (ga : Int)] w fun e w'=>e = .returned (.bool ba) ∧ w' = w):=fun w=>by rw [hba];exact number_any ga w
 have HBQ : Hid (∀ w,Calls Try.prog 85 #[.int .u32 (gq : Int)] w fun e w'=>e = .returned (.bool bq) ∧ w' = w):=fun w=>by rw [hbq];exact number_any gq w
 rw [← hba,← hbq] at HLB2
 clear hba hbq
 obtain ⟨bd,hbd⟩ : ∃ z : Bool,z = !(ba && (bq && (!decide (gt < 0) && (!decide (l ≤ gt) && (!decide (l < (n : Int)) && !decide (l < gu)))))):=⟨_,rfl⟩
 have HBD:=Lib.hid hbd
 clear hbd
 go_cut [90] (fun s90 wx=>s90 = .bool bd ∧ Below w2.heap.size w2 wx)
 case first=>
  as_aux_lemma=>
  clear HRM HHM HR HLB2 HNL HNM HII HQQ HXB t2
  refine wp_region_held_drew (S:=fun w'=>Below w2.heap.size w2 w' ∧ ∀ o,w'.cell? ⟨gR,o,none⟩ = (#[.int .u32 (ga : Int),.int .u32 (gq : Int),.int .i64 gt,.int .i64 gu,.slice L n lc,.int .u32 (id : Int),.int .i64 m,.int .i64 c,.int .i64 r,.int .i64 l,.int .i64 h] : Array Value).toList[o]?) (by kernel_rfl) ⟨Ext.drew (Below.refl _ _),B2.drew.cell⟩ (fun hS=>?_)
  clear y2 B2
  refine wpAnyH_take (i:=0) (v:=?_) rfl (by kernel_rfl) (by kernel_rfl) (by kernel_rfl) (fun _ _ _ h=>h) (Or.inl ⟨by rfl,?_⟩) hS ?_
  rotate_left
  · (intro w hSw;(try dsimp only at hSw);go_simp;(try with_reducible rfl))
  rotate_left
  simp only [Act.put,zq0,zq1,zq2,zq3,zq4,zq5]
  refine wpAnyH_take (i:=1) (v:=?_) rfl (by kernel_rfl) (by kernel_rfl) (by kernel_rfl) (fun _ _ _ h=>h) (Or.inl ⟨by rfl,?_⟩) hS ?_
  rotate_left
  · (intro w hSw;(try dsimp only at hSw);go_simp;(try with_reducible rfl))
  rotate_left
  simp only [Act.put,zq0,zq1,zq2,zq3,zq4,zq5]
  refine wpAnyH_take (i:=2) (v:=?_) rfl (by kernel_rfl) (by kernel_rfl) (by kernel_rfl) (fun _ _ _ h=>h) (Or.inl ⟨by rfl,?_⟩) hS ?_
  rotate_left
  · (intro w hSw;(try dsimp only at hSw);go_simp;(try with_reducible rfl))
  rotate_left
  simp only [Act.put,zq0,zq1,zq2,zq3,zq4,zq5]
  refine wpAnyH_take (i:=3) (v:=?_) rfl (by kernel_rfl) (by kernel_rfl) (by kernel_rfl) (fun _ _ _ h=>h) (Or.inl ⟨by rfl,?_⟩) hS ?_
  rotate_left
  · (intro w hSw;(try dsimp only at hSw);go_simp;(try with_reducible rfl))
  rotate_left
  simp only [Act.put,zq0,zq1,zq2,zq3,zq4,zq5]
  refine wpAnyH_take (i:=4) (v:=?_) rfl (by kernel_rfl) (by kernel_rfl) (by kernel_rfl) (fun _ _ _ h=>h) (Or.inl ⟨by rfl,?_⟩) hS ?_
  rotate_left
  · (intro w hSw;(try dsimp only at hSw);go_simp;(try with_reducible rfl))
  rotate_left
  simp only [Act.put,zq0,zq1,zq2,zq3,zq4,zq5]
  refine wpAnyH_ready (rs:=[5]) (by kernel_rfl) (by simp) ?_
  refine AllReadyH.cons rfl (fun K hK=>?_) AllReadyH.nil
  rw [if_pos (by rfl)]
  go_simp
  refine (HBA.out _).mono ?_
  rintro e w9 ⟨rfl,hw9⟩
  have hw8:=hw9.symm
  clear hw9
  subst hw8
  refine hK.out _ _ hS (fun hS'=>?_)
  clear hK K hS
  have hS:=hS'
  clear hS'
  try simp only [Act.put,zq0,zq1,zq2,zq3,zq4,zq5]
  cases ba with
  | false=>
    have hb : Hid (bd = true):=by show _ = _;rw [HBD.out];rfl
    refine wpAnyH_take (i:=6) (v:=?_) rfl (by kernel_rfl) (by kernel_rfl) (by kernel_rfl) (fun _ _ _ h=>h) (Or.inl ⟨by rfl,?_⟩) hS ?_
    rotate_left
    · (intro w hSw;(try dsimp only at hSw);go_simp;(try with_reducible rfl))
    rotate_left
    simp only [Act.put,zq0,zq1,zq2,zq3,zq4,zq5]
    refine wpAnyH_take (i:=7) (v:=?_) rfl (by kernel_rfl) (by kernel_rfl) (by kernel_rfl) (fun _ _ _ h=>h) (Or.inl ⟨by rfl,?_⟩) hS ?_
    rotate_left
    · (intro w hSw;(try dsimp only at hSw);go_simp;(try with_reducible rfl))
    rotate_left
    simp only [Act.put,zq0,zq1,zq2,zq3,zq4,zq5]
    refine wpAnyH_take (i:=8) (v:=?_) rfl (by kernel_rfl) (by kernel_rfl) (by kernel_rfl) (fun _ _ _ h=>h) (Or.inr ⟨by rfl,?_⟩) hS ?_
    rotate_left
    · rfl
    rotate_left
    simp only [Act.put,zq0,zq1,zq2,zq3,zq4,zq5]
    refine wpAnyH_take (i:=9) (v:=?_) rfl (by kernel_rfl) (by kernel_rfl) (by kernel_rfl) (fun _ _ _ h=>h) (Or.inr ⟨by rfl,?_⟩) hS ?_
    rotate_left
    · rfl
    rotate_left
    simp only [Act.put,zq0,zq1,zq2,zq3,zq4,zq5]
    refine wpAnyH_take (i:=10) (v:=?_) rfl (by kernel_rfl) (by kernel_rfl) (by kernel_rfl) (fun _ _ _ h=>h) (Or.inr ⟨by rfl,?_⟩) hS ?_
    rotate_left
    · rfl
    rotate_left
    simp only [Act.put,zq0,zq1,zq2,zq3,zq4,zq5]
    refine wpAnyH_take (i:=11) (v:=?_) rfl (by kernel_rfl) (by kernel_rfl) (by kernel_rfl) (fun _ _ _ h=>h) (Or.inr ⟨by rfl,?_⟩) hS ?_
    rotate_left
    · rfl
    rotate_left
    simp only [Act.put,zq0,zq1,zq2,zq3,zq4,zq5]
    refine wpAnyH_take (i:=12) (v:=?_) rfl (by kernel_rfl) (by kernel_rfl) (by kernel_rfl) (fun _ _ _ h=>h) (Or.inr ⟨by rfl,?_⟩) hS ?_
    rotate_left
    · rfl
    rotate_left
    simp only [Act.put,zq0,zq1,zq2,zq3,zq4,zq5]
    refine wpAnyH_take (i:=13) (v:=?_) rfl (by kernel_rfl) (by kernel_rfl) (by kernel_rfl) (fun _ _ _ h=>h) (Or.inr ⟨by rfl,?_⟩) hS ?_
    rotate_left
    · rfl
    rotate_left
    simp only [Act.put,zq0,zq1,zq2,zq3,zq4,zq5]
    refine wpAnyH_take (i:=14) (v:=?_) rfl (by kernel_rfl) (by kernel_rfl) (by kernel_rfl) (fun _ _ _ h=>h) (Or.inr ⟨by rfl,?_⟩) hS ?_
    rotate_left
    · rfl
    rotate_left
    simp only [Act.put,zq0,zq1,zq2,zq3,zq4,zq5]
    refine wpAnyH_take (i:=15) (v:=?_) rfl (by kernel_rfl) (by kernel_rfl) (by kernel_rfl) (fun _ _ _ h=>h) (Or.inl ⟨by rfl,?_⟩) hS ?_
    rotate_left
    · (intro w hSw;(try dsimp only at hSw);go_simp;(try with_reducible rfl))
    rotate_left
    simp only [Act.put,zq0,zq1,zq2,zq3,zq4,zq5]
    refine wpAnyH_take (i:=16) (v:=?_) rfl (by kernel_rfl) (by kernel_rfl) (by kernel_rfl) (fun _ _ _ h=>h) (Or.inl ⟨by rfl,?_⟩) hS ?_
    rotate_left
    · (intro w hSw;(try dsimp only at hSw);go_simp;(try with_reducible rfl))
    rotate_left
    simp only [Act.put,zq0,zq1,zq2,zq3,zq4,zq5]
    refine wpAnyH_take (i:=17) (v:=?_) rfl (by kernel_rfl) (by kernel_rfl) (by kernel_rfl) (fun _ _ _ h=>h) (Or.inr ⟨by rfl,?_⟩) hS ?_
    rotate_left
    · rfl
    rotate_left
    simp only [Act.put,zq0,zq1,zq2,zq3,zq4,zq5]
    refine wpAnyH_take (i:=18) (v:=?_) rfl (by kernel_rfl) (by kernel_rfl) (by kernel_rfl) (fun _ _ _ h=>h) (Or.inr ⟨by rfl,?_⟩) hS ?_
    rotate_left
    · rfl
    rotate_left
    simp only [Act.put,zq0,zq1,zq2,zq3,zq4,zq5]
    refine wpAnyH_take (i:=19) (v:=?_) rfl (by kernel_rfl) (by kernel_rfl) (by kernel_rfl) (fun _ _ _ h=>h) (Or.inr ⟨by rfl,?_⟩) hS ?_
    rotate_left
    · rfl
    rotate_left
    simp only [Act.put,zq0,zq1,zq2,zq3,zq4,zq5]
    refine wpAnyH_take (i:=20) (v:=?_) rfl (by kernel_rfl) (by kernel_rfl) (by kernel_rfl) (fun _ _ _ h=>h) (Or.inr ⟨by rfl,?_⟩) hS ?_
    rotate_left
    · rfl
    rotate_left
    simp only [Act.put,zq0,zq1,zq2,zq3,zq4,zq5]
    refine wpAnyH_take (i:=21) (v:=?_) rfl (by kernel_rfl) (by kernel_rfl) (by kernel_rfl) (fun _ _ _ h=>h) (Or.inr ⟨by rfl,?_⟩) hS ?_
    rotate_left
    · rfl
    rotate_left
    simp only [Act.put,zq0,zq1,zq2,zq3,zq4,zq5]
    refine wpAnyH_take (i:=22) (v:=?_) rfl (by kernel_rfl) (by kernel_rfl) (by kernel_rfl) (fun _ _ _ h=>h) (Or.inr ⟨by rfl,?_⟩) hS ?_
    rotate_left
    · rfl
    rotate_left
    simp only [Act.put,zq0,zq1,zq2,zq3,zq4,zq5]
    refine wpAnyH_take (i:=23) (v:=?_) rfl (by kernel_rfl) (by kernel_rfl) (by kernel_rfl) (fun _ _ _ h=>h) (Or.inl ⟨by rfl,?_⟩) hS ?_
    rotate_left
    · (intro w hSw;(try dsimp only at hSw);go_simp;(try with_reducible rfl))
    rotate_left
    simp only [Act.put,zq0,zq1,zq2,zq3,zq4,zq5]
    refine wpAnyH_take (i:=24) (v:=?_) rfl (by kernel_rfl) (by kernel_rfl) (by kernel_rfl) (fun _ _ _ h=>h) (Or.inl ⟨by rfl,?_⟩) hS ?_
    rotate_left
    · (intro w hSw;(try dsimp only at hSw);go_simp;(try with_reducible rfl))
    rotate_left
    simp only [Act.put,zq0,zq1,zq2,zq3,zq4,zq5]
    refine wpAnyH_take (i:=25) (v:=?_) rfl (by kernel_rfl) (by kernel_rfl) (by kernel_rfl) (fun _ _ _ h=>h) (Or.inr ⟨by rfl,?_⟩) hS ?_
    rotate_left
    · rfl
    rotate_left
    simp only [Act.put,zq0,zq1,zq2,zq3,zq4,zq5]
    refine wpAnyH_take (i:=26) (v:=?_) rfl (by kernel_rfl) (by kernel_rfl) (by kernel_rfl) (fun _ _ _ h=>h) (Or.inr ⟨by rfl,?_⟩) hS ?_
    rotate_left
    · rfl
    rotate_left
    simp only [Act.put,zq0,zq1,zq2,zq3,zq4,zq5]
    refine wpAnyH_take (i:=27) (v:=?_) rfl (by kernel_rfl) (by kernel_rfl) (by kernel_rfl) (fun _ _ _ h=>h) (Or.inr ⟨by rfl,?_⟩) hS ?_
    rotate_left
    · rfl
    rotate_left
    simp only [Act.put,zq0,zq1,zq2,zq3,zq4,zq5]
    refine wpAnyH_take (i:=28) (v:=?_) rfl (by kernel_rfl) (by kernel_rfl) (by kernel_rfl) (fun _ _ _ h=>h) (Or.inr ⟨by rfl,?_⟩) hS ?_
    rotate_left
    · rfl
    rotate_left
    simp only [Act.put,zq0,zq1,zq2,zq3,zq4,zq5]
    refine wpAnyH_take (i:=29) (v:=?_) rfl (by kernel_rfl) (by kernel_rfl) (by kernel_rfl) (fun _ _ _ h=>h) (Or.inr ⟨by rfl,?_⟩) hS ?_
    rotate_left
    · rfl
    rotate_left
    simp only [Act.put,zq0,zq1,zq2,zq3,zq4,zq5]
    refine wpAnyH_take (i:=30) (v:=?_) rfl (by kernel_rfl) (by kernel_rfl) (by kernel_rfl) (fun _ _ _ h=>h) (Or.inr ⟨by rfl,?_⟩) hS ?_
    rotate_left
    · rfl
    rotate_left
    simp only [Act.put,zq0,zq1,zq2,zq3,zq4,zq5]
    refine wpAnyH_take (i:=31) (v:=?_) rfl (by kernel_rfl) (by kernel_rfl) (by kernel_rfl) (fun _ _ _ h=>h) (Or.inr ⟨by rfl,?_⟩) hS ?_
    rotate_left
    · rfl
    rotate_left
    simp only [Act.put,zq0,zq1,zq2,zq3,zq4,zq5]
    refine wpAnyH_take (i:=32) (v:=?_) rfl (by kernel_rfl) (by kernel_rfl) (by kernel_rfl) (fun _ _ _ h=>h) (Or.inr ⟨by rfl,?_⟩) hS ?_
    rotate_left
    · rfl
    rotate_left
    simp only [Act.put,zq0,zq1,zq2,zq3,zq4,zq5]
    refine wpAnyH_take (i:=33) (v:=?_) rfl (by kernel_rfl) (by kernel_rfl) (by kernel_rfl) (fun _ _ _ h=>h) (Or.inr ⟨by rfl,?_⟩) hS ?_
    rotate_left
    · rfl
    rotate_left
    simp only [Act.put,zq0,zq1,zq2,zq3,zq4,zq5]
    refine wpAnyH_take (i:=34) (v:=?_) rfl (by kernel_rfl) (by kernel_rfl) (by kernel_rfl) (fun _ _ _ h=>h) (Or.inr ⟨by rfl,?_⟩) hS ?_
    rotate_left
    · rfl
    rotate_left
    simp only [Act.put,zq0,zq1,zq2,zq3,zq4,zq5]
    refine wpAnyH_take (i:=35) (v:=?_) rfl (by kernel_rfl) (by kernel_rfl) (by kernel_rfl) (fun _ _ _ h=>h) (Or.inr ⟨by rfl,?_⟩) hS ?_
    rotate_left
    · rfl
    rotate_left
    simp only [Act.put,zq0,zq1,zq2,zq3,zq4,zq5]
    refine wpAnyH_take (i:=36) (v:=?_) rfl (by kernel_rfl) (by kernel_rfl) (by kernel_rfl) (fun _ _ _ h=>h) (Or.inl ⟨by rfl,?_⟩) hS ?_
    rotate_left
    · (intro w hSw;(try dsimp only at hSw);go_simp;(try with_reducible rfl))
    rotate_left
    simp only [Act.put,zq0,zq1,zq2,zq3,zq4,zq5]
    refine wpAnyH_take (i:=37) (v:=?_) rfl (by kernel_rfl) (by kernel_rfl) (by kernel_rfl) (fun _ _ _ h=>h) (Or.inl ⟨by rfl,?_⟩) hS ?_
    rotate_left
    · (intro w hSw;(try dsimp only at hSw);go_simp;(try with_reducible rfl))
    rotate_left
    simp only [Act.put,zq0,zq1,zq2,zq3,zq4,zq5]
    refine wpAnyH_take (i:=38) (v:=?_) rfl (by kernel_rfl) (by kernel_rfl) (by kernel_rfl) (fun _ _ _ h=>h) (Or.inr ⟨by rfl,?_⟩) hS ?_
    rotate_left
    · rfl
    rotate_left
    simp only [Act.put,zq0,zq1,zq2,zq3,zq4,zq5]
    refine wpAnyH_take (i:=39) (v:=?_) rfl (by kernel_rfl) (by kernel_rfl) (by kernel_rfl) (fun _ _ _ h=>h) (Or.inr ⟨by rfl,?_⟩) hS ?_
    rotate_left
    · rfl
    rotate_left
    simp only [Act.put,zq0,zq1,zq2,zq3,zq4,zq5]
    refine wpAnyH_take (i:=40) (v:=?_) rfl (by kernel_rfl) (by kernel_rfl) (by kernel_rfl) (fun _ _ _ h=>h) (Or.inr ⟨by rfl,?_⟩) hS ?_
    rotate_left
    · rfl
    rotate_left
    simp only [Act.put,zq0,zq1,zq2,zq3,zq4,zq5]
    refine wpAnyH_take (i:=41) (v:=?_) rfl (by kernel_rfl) (by kernel_rfl) (by kernel_rfl) (fun _ _ _ h=>h) (Or.inr ⟨by rfl,?_⟩) hS ?_
    rotate_left
    · rfl
    rotate_left
    simp only [Act.put,zq0,zq1,zq2,zq3,zq4,zq5]
    refine wpAnyH_take (i:=42) (v:=?_) rfl (by kernel_rfl) (by kernel_rfl) (by kernel_rfl) (fun _ _ _ h=>h) (Or.inr ⟨by rfl,?_⟩) hS ?_
    rotate_left
    · rfl
    rotate_left
    simp only [Act.put,zq0,zq1,zq2,zq3,zq4,zq5]
    refine wpAnyH_take (i:=43) (v:=?_) rfl (by kernel_rfl) (by kernel_rfl) (by kernel_rfl) (fun _ _ _ h=>h) (Or.inr ⟨by rfl,?_⟩) hS ?_
    rotate_left
    · rfl
    rotate_left
    simp only [Act.put,zq0,zq1,zq2,zq3,zq4,zq5]
    refine wpAnyH_take (i:=44) (v:=?_) rfl (by kernel_rfl) (by kernel_rfl) (by kernel_rfl) (fun _ _ _ h=>h) (Or.inr ⟨by rfl,?_⟩) hS ?_
    rotate_left
    · rfl
    rotate_left
    simp only [Act.put,zq0,zq1,zq2,zq3,zq4,zq5]
    refine wpAnyH_take (i:=45) (v:=?_) rfl (by kernel_rfl) (by kernel_rfl) (by kernel_rfl) (fun _ _ _ h=>h) (Or.inr ⟨by rfl,?_⟩) hS ?_
    rotate_left
    · rfl
    rotate_left
    simp only [Act.put,zq0,zq1,zq2,zq3,zq4,zq5]
    refine wpAnyH_take (i:=46) (v:=?_) rfl (by kernel_rfl) (by kernel_rfl) (by kernel_rfl) (fun _ _ _ h=>h) (Or.inr ⟨by rfl,?_⟩) hS ?_
    rotate_left
    · rfl
    rotate_left
    simp only [Act.put,zq0,zq1,zq2,zq3,zq4,zq5]
    refine wpAnyH_take (i:=47) (v:=?_) rfl (by kernel_rfl) (by kernel_rfl) (by kernel_rfl) (fun _ _ _ h=>h) (Or.inr ⟨by rfl,?_⟩) hS ?_
    rotate_left
    · rfl
    rotate_left
    simp only [Act.put,zq0,zq1,zq2,zq3,zq4,zq5]
    refine wpAnyH_take (i:=48) (v:=?_) rfl (by kernel_rfl) (by kernel_rfl) (by kernel_rfl) (fun _ _ _ h=>h) (Or.inr ⟨by rfl,?_⟩) hS ?_
    rotate_left
    · rfl
    rotate_left
    simp only [Act.put,zq0,zq1,zq2,zq3,zq4,zq5]
    refine wpAnyH_take (i:=49) (v:=?_) rfl (by kernel_rfl) (by kernel_rfl) (by kernel_rfl) (fun _ _ _ h=>h) (Or.inr ⟨by rfl,?_⟩) hS ?_
    rotate_left
    · rfl
    rotate_left
    simp only [Act.put,zq0,zq1,zq2,zq3,zq4,zq5]
    refine wpAnyH_take (i:=50) (v:=?_) rfl (by kernel_rfl) (by kernel_rfl) (by kernel_rfl) (fun _ _ _ h=>h) (Or.inl ⟨by rfl,?_⟩) hS ?_
    rotate_left
    · (intro w hSw;(try dsimp only at hSw);go_simp;(try with_reducible rfl))
    rotate_left
    simp only [Act.put,zq0,zq1,zq2,zq3,zq4,zq5]
    refine wpAnyH_take (i:=51) (v:=?_) rfl (by kernel_rfl) (by kernel_rfl) (by kernel_rfl) (fun _ _ _ h=>h) (Or.inl ⟨by rfl,?_⟩) hS ?_
    rotate_left
    · (intro w hSw;(try dsimp only at hSw);go_simp;(try with_reducible rfl))
    rotate_left
    simp only [Act.put,zq0,zq1,zq2,zq3,zq4,zq5]
    refine wpAnyH_take (i:=52) (v:=?_) rfl (by kernel_rfl) (by kernel_rfl) (by kernel_rfl) (fun _ _ _ h=>h) (Or.inr ⟨by rfl,?_⟩) hS ?_
    rotate_left
    · rfl
    rotate_left
    simp only [Act.put,zq0,zq1,zq2,zq3,zq4,zq5]
    refine wpAnyH_take (i:=53) (v:=?_) rfl (by kernel_rfl) (by kernel_rfl) (by kernel_rfl) (fun _ _ _ h=>h) (Or.inr ⟨by rfl,?_⟩) hS ?_
    rotate_left
    · rfl
    rotate_left
    simp only [Act.put,zq0,zq1,zq2,zq3,zq4,zq5]
    refine wpAnyH_take (i:=54) (v:=?_) rfl (by kernel_rfl) (by kernel_rfl) (by kernel_rfl) (fun _ _ _ h=>h) (Or.inr ⟨by rfl,?_⟩) hS ?_
    rotate_left
    · rfl
    rotate_left
    simp only [Act.put,zq0,zq1,zq2,zq3,zq4,zq5]
    refine wpAnyH_take (i:=55) (v:=?_) rfl (by kernel_rfl) (by kernel_rfl) (by kernel_rfl) (fun _ _ _ h=>h) (Or.inr ⟨by rfl,?_⟩) hS ?_
    rotate_left
    · rfl
    rotate_left
    simp only [Act.put,zq0,zq1,zq2,zq3,zq4,zq5]
    refine wpAnyH_take (i:=56) (v:=?_) rfl (by kernel_rfl) (by kernel_rfl) (by kernel_rfl) (fun _ _ _ h=>h) (Or.inr ⟨by rfl,?_⟩) hS ?_
    rotate_left
    · rfl
    rotate_left
    simp only [Act.put,zq0,zq1,zq2,zq3,zq4,zq5]
    refine wpAnyH_take (i:=57) (v:=?_) rfl (by kernel_rfl) (by kernel_rfl) (by kernel_rfl) (fun _ _ _ h=>h) (Or.inr ⟨by rfl,?_⟩) hS ?_
    rotate_left
    · rfl
    rotate_left
    simp only [Act.put,zq0,zq1,zq2,zq3,zq4,zq5]
    refine wpAnyH_take (i:=58) (v:=?_) rfl (by kernel_rfl) (by kernel_rfl) (by kernel_rfl) (fun _ _ _ h=>h) (Or.inr ⟨by rfl,?_⟩) hS ?_
    rotate_left
    · rfl
    rotate_left
    simp only [Act.put,zq0,zq1,zq2,zq3,zq4,zq5]
    refine wpAnyH_take (i:=59) (v:=?_) rfl (by kernel_rfl) (by kernel_rfl) (by kernel_rfl) (fun _ _ _ h=>h) (Or.inr ⟨by rfl,?_⟩) hS ?_
    rotate_left
    · rfl
    rotate_left
    simp only [Act.put,zq0,zq1,zq2,zq3,zq4,zq5]
    refine wpAnyH_take (i:=60) (v:=?_) rfl (by kernel_rfl) (by kernel_rfl) (by kernel_rfl) (fun _ _ _ h=>h) (Or.inr ⟨by rfl,?_⟩) hS ?_
    rotate_left
    · rfl
    rotate_left
    simp only [Act.put,zq0,zq1,zq2,zq3,zq4,zq5]
    refine wpAnyH_take (i:=61) (v:=?_) rfl (by kernel_rfl) (by kernel_rfl) (by kernel_rfl) (fun _ _ _ h=>h) (Or.inr ⟨by rfl,?_⟩) hS ?_
    rotate_left
    · rfl
    rotate_left
    simp only [Act.put,zq0,zq1,zq2,zq3,zq4,zq5]
    refine wpAnyH_take (i:=62) (v:=?_) rfl (by kernel_rfl) (by kernel_rfl) (by kernel_rfl) (fun _ _ _ h=>h) (Or.inr ⟨by rfl,?_⟩) hS ?_
    rotate_left
    · rfl
    rotate_left
    simp only [Act.put,zq0,zq1,zq2,zq3,zq4,zq5]
    refine wpAnyH_take (i:=63) (v:=?_) rfl (by kernel_rfl) (by kernel_rfl) (by kernel_rfl) (fun _ _ _ h=>h) (Or.inl ⟨by rfl,?_⟩) hS ?_
    rotate_left
    · (intro w hSw;(try dsimp only at hSw);go_simp;(try with_reducible rfl))
    rotate_left
    simp only [Act.put,zq0,zq1,zq2,zq3,zq4,zq5]
    refine wpAnyH_done (by kernel_rfl) ?_ _
    have HT:=Lib.hid hS.1
    clear hS
    go_wp2_with fail
    go_meet
    exact ⟨by rw [hb.out],HT.out⟩
  | true=>
  refine wpAnyH_take (i:=6) (v:=?_) rfl (by kernel_rfl) (by kernel_rfl) (by kernel_rfl) (fun _ _ _ h=>h) (Or.inl ⟨by rfl,?_⟩) hS ?_
  rotate_left
  · (intro w hSw;(try dsimp only at hSw);go_simp;(try with_reducible rfl))
  rotate_left
  simp only [Act.put,zq0,zq1,zq2,zq3,zq4,zq5]
  refine wpAnyH_take (i:=7) (v:=?_) rfl (by kernel_rfl) (by kernel_rfl) (by kernel_rfl) (fun _ _ _ h=>h) (Or.inl ⟨by rfl,?_⟩) hS ?_
  rotate_left
  · (intro w hSw;(try dsimp only at hSw);go_simp;(try with_reducible rfl))
  rotate_left
  simp only [Act.put,zq0,zq1,zq2,zq3,zq4,zq5]
  refine wpAnyH_take (i:=8) (v:=?_) rfl (by kernel_rfl) (by kernel_rfl) (by kernel_rfl) (fun _ _ _ h=>h) (Or.inl ⟨by rfl,?_⟩) hS ?_
  rotate_left
  · (intro w hSw;(try dsimp only at hSw);go_simp;(try with_reducible rfl))
  rotate_left
  simp only [Act.put,zq0,zq1,zq2,zq3,zq4,zq5]
  refine wpAnyH_take (i:=9) (v:=?_) rfl (by kernel_rfl) (by kernel_rfl) (by kernel_rfl) (fun _ _ _ h=>h) (Or.inl ⟨by rfl,?_⟩) hS ?_
  rotate_left
  · (intro w hSw;(try dsimp only at hSw);go_simp;(try with_reducible rfl))
  rotate_left
  simp only [Act.put,zq0,zq1,zq2,zq3,zq4,zq5]
  refine wpAnyH_take (i:=10) (v:=?_) rfl (by kernel_rfl) (by kernel_rfl) (by kernel_rfl) (fun _ _ _ h=>h) (Or.inl ⟨by rfl,?_⟩) hS ?_
  rotate_left
  · (intro w hSw;(try dsimp only at hSw);go_simp;(try with_reducible rfl))
  rotate_left
  simp only [Act.put,zq0,zq1,zq2,zq3,zq4,zq5]
  refine wpAnyH_take (i:=11) (v:=?_) rfl (by kernel_rfl) (by kernel_rfl) (by kernel_rfl) (fun _ _ _ h=>h) (Or.inl ⟨by rfl,?_⟩) hS ?_
  rotate_left
  · (intro w hSw;(try dsimp only at hSw);go_simp;(try with_reducible rfl))
  rotate_left
  simp only [Act.put,zq0,zq1,zq2,zq3,zq4,zq5]
  refine wpAnyH_take (i:=12) (v:=?_) rfl (by kernel_rfl) (by kernel_rfl) (by kernel_rfl) (fun _ _ _ h=>h) (Or.inl ⟨by rfl,?_⟩) hS ?_
  rotate_left
  · (intro w hSw;(try dsimp only at hSw);go_simp;(try with_reducible rfl))
  rotate_left
  simp only [Act.put,zq0,zq1,zq2,zq3,zq4,zq5]
  refine wpAnyH_ready (rs:=[13]) (by kernel_rfl) (by simp) ?_
  refine AllReadyH.cons rfl (fun K hK=>?_) AllReadyH.nil
  rw [if_pos (by rfl)]
  go_simp
  refine (HBQ.out _).mono ?_
  rintro e w9 ⟨rfl,hw9⟩
  have hw8:=hw9.symm
  clear hw9
  subst hw8
  refine hK.out _ _ hS (fun hS'=>?_)
  clear hK K hS
  have hS:=hS'
  clear hS'
  try simp only [Act.put,zq0,zq1,zq2,zq3,zq4,zq5]
  cases bq with
  | false=>
    have hb : Hid (bd = true):=by show _ = _;rw [HBD.out];rfl
    refine wpAnyH_take (i:=14) (v:=?_) rfl (by kernel_rfl) (by kernel_rfl) (by kernel_rfl) (fun _ _ _ h=>h) (Or.inl ⟨by rfl,?_⟩) hS ?_
    rotate_left
    · (intro w hSw;(try dsimp only at hSw);go_simp;(try with_reducible rfl))
    rotate_left
    simp only [Act.put,zq0,zq1,zq2,zq3,zq4,zq5]
    refine wpAnyH_take (i:=15) (v:=?_) rfl (by kernel_rfl) (by kernel_rfl) (by kernel_rfl) (fun _ _ _ h=>h) (Or.inl ⟨by rfl,?_⟩) hS ?_
    rotate_left
    · (intro w hSw;(try dsimp only at hSw);go_simp;(try with_reducible rfl))
    rotate_left
    simp only [Act.put,zq0,zq1,zq2,zq3,zq4,zq5]
    refine wpAnyH_take (i:=16) (v:=?_) rfl (by kernel_rfl) (by kernel_rfl) (by kernel_rfl) (fun _ _ _ h=>h) (Or.inl ⟨by rfl,?_⟩) hS ?_
    rotate_left
    · (intro w hSw;(try dsimp only at hSw);go_simp;(try with_reducible rfl))
    rotate_left
    simp only [Act.put,zq0,zq1,zq2,zq3,zq4,zq5]
    refine wpAnyH_take (i:=17) (v:=?_) rfl (by kernel_rfl) (by kernel_rfl) (by kernel_rfl) (fun _ _ _ h=>h) (Or.inr ⟨by rfl,?_⟩) hS ?_
    rotate_left
    · rfl
    rotate_left
    simp only [Act.put,zq0,zq1,zq2,zq3,zq4,zq5]
    refine wpAnyH_take (i:=18) (v:=?_) rfl (by kernel_rfl) (by kernel_rfl) (by kernel_rfl) (fun _ _ _ h=>h) (Or.inr ⟨by rfl,?_⟩) hS ?_
    rotate_left
    · rfl
    rotate_left
    simp only [Act.put,zq0,zq1,zq2,zq3,zq4,zq5]
    refine wpAnyH_take (i:=19) (v:=?_) rfl (by kernel_rfl) (by kernel_rfl) (by kernel_rfl) (fun _ _ _ h=>h) (Or.inr ⟨by rfl,?_⟩) hS ?_
    rotate_left
    · rfl
    rotate_left
    simp only [Act.put,zq0,zq1,zq2,zq3,zq4,zq5]
    refine wpAnyH_take (i:=20) (v:=?_) rfl (by kernel_rfl) (by kernel_rfl) (by kernel_rfl) (fun _ _ _ h=>h) (Or.inr ⟨by rfl,?_⟩) hS ?_
    rotate_left
    · rfl
    rotate_left
    simp only [Act.put,zq0,zq1,zq2,zq3,zq4,zq5]
    refine wpAnyH_take (i:=21) (v:=?_) rfl (by kernel_rfl) (by kernel_rfl) (by kernel_rfl) (fun _ _ _ h=>h) (Or.inr ⟨by rfl,?_⟩) hS ?_
    rotate_left
    · rfl
    rotate_left
    simp only [Act.put,zq0,zq1,zq2,zq3,zq4,zq5]
    refine wpAnyH_take (i:=22) (v:=?_) rfl (by kernel_rfl) (by kernel_rfl) (by kernel_rfl) (fun _ _ _ h=>h) (Or.inr ⟨by rfl,?_⟩) hS ?_
    rotate_left
    · rfl
    rotate_left
    simp only [Act.put,zq0,zq1,zq2,zq3,zq4,zq5]
    refine wpAnyH_take (i:=23) (v:=?_) rfl (by kernel_rfl) (by kernel_rfl) (by kernel_rfl) (fun _ _ _ h=>h) (Or.inl ⟨by rfl,?_⟩) hS ?_
    rotate_left
    · (intro w hSw;(try dsimp only at hSw);go_simp;(try with_reducible rfl))
    rotate_left
    simp only [Act.put,zq0,zq1,zq2,zq3,zq4,zq5]
    refine wpAnyH_take (i:=24) (v:=?_) rfl (by kernel_rfl) (by kernel_rfl) (by kernel_rfl) (fun _ _ _ h=>h) (Or.inl ⟨by rfl,?_⟩) hS ?_
    rotate_left
    · (intro w hSw;(try dsimp only at hSw);go_simp;(try with_reducible rfl))
    rotate_left
    simp only [Act.put,zq0,zq1,zq2,zq3,zq4,zq5]
    refine wpAnyH_take (i:=25) (v:=?_) rfl (by kernel_rfl) (by kernel_rfl) (by kernel_rfl) (fun _ _ _ h=>h) (Or.inr ⟨by rfl,?_⟩) hS ?_
    rotate_left
    · rfl
    rotate_left
    simp only [Act.put,zq0,zq1,zq2,zq3,zq4,zq5]
    refine wpAnyH_take (i:=26) (v:=?_) rfl (by kernel_rfl) (by kernel_rfl) (by kernel_rfl) (fun _ _ _ h=>h) (Or.inr ⟨by rfl,?_⟩) hS ?_
    rotate_left
    · rfl
    rotate_left
    simp only [Act.put,zq0,zq1,zq2,zq3,zq4,zq5]
    refine wpAnyH_take (i:=27) (v:=?_) rfl (by kernel_rfl) (by kernel_rfl) (by kernel_rfl) (fun _ _ _ h=>h) (Or.inr ⟨by rfl,?_⟩) hS ?_
    rotate_left
    · rfl
    rotate_left
    simp only [Act.put,zq0,zq1,zq2,zq3,zq4,zq5]
    refine wpAnyH_take (i:=28) (v:=?_) rfl (by kernel_rfl) (by kernel_rfl) (by kernel_rfl) (fun _ _ _ h=>h) (Or.inr ⟨by rfl,?_⟩) hS ?_
    rotate_left
    · rfl
    rotate_left
    simp only [Act.put,zq0,zq1,zq2,zq3,zq4,zq5]
    refine wpAnyH_take (i:=29) (v:=?_) rfl (by kernel_rfl) (by kernel_rfl) (by kernel_rfl) (fun _ _ _ h=>h) (Or.inr ⟨by rfl,?_⟩) hS ?_
    rotate_left
    · rfl
    rotate_left
    simp only [Act.put,zq0,zq1,zq2,zq3,zq4,zq5]
    refine wpAnyH_take (i:=30) (v:=?_) rfl (by kernel_rfl) (by kernel_rfl) (by kernel_rfl) (fun _ _ _ h=>h) (Or.inr ⟨by rfl,?_⟩) hS ?_
    rotate_left
    · rfl
    rotate_left
    simp only [Act.put,zq0,zq1,zq2,zq3,zq4,zq5]
    refine wpAnyH_take (i:=31) (v:=?_) rfl (by kernel_rfl) (by kernel_rfl) (by kernel_rfl) (fun _ _ _ h=>h) (Or.inr ⟨by rfl,?_⟩) hS ?_
    rotate_left
    · rfl
    rotate_left
    simp only [Act.put,zq0,zq1,zq2,zq3,zq4,zq5]
    refine wpAnyH_take (i:=32) (v:=?_) rfl (by kernel_rfl) (by kernel_rfl) (by kernel_rfl) (fun _ _ _ h=>h) (Or.inr ⟨by rfl,?_⟩) hS ?_
    rotate_left
    · rfl
    rotate_left
    simp only [Act.put,zq0,zq1,zq2,zq3,zq4,zq5]
    refine wpAnyH_take (i:=33) (v:=?_) rfl (by kernel_rfl) (by kernel_rfl) (by kernel_rfl) (fun _ _ _ h=>h) (Or.inr ⟨by rfl,?_⟩) hS ?_
    rotate_left
    · rfl
    rotate_left
    simp only [Act.put,zq0,zq1,zq2,zq3,zq4,zq5]
    refine wpAnyH_take (i:=34) (v:=?_) rfl (by kernel_rfl) (by kernel_rfl) (by kernel_rfl) (fun _ _ _ h=>h) (Or.inr ⟨by rfl,?_⟩) hS ?_
    rotate_left
    · rfl
    rotate_left
    simp only [Act.put,zq0,zq1,zq2,zq3,zq4,zq5]
    refine wpAnyH_take (i:=35) (v:=?_) rfl (by kernel_rfl) (by kernel_rfl) (by kernel_rfl) (fun _ _ _ h=>h) (Or.inr ⟨by rfl,?_⟩) hS ?_
    rotate_left
    · rfl
    rotate_left
    simp only [Act.put,zq0,zq1,zq2,zq3,zq4,zq5]
    refine wpAnyH_take (i:=36) (v:=?_) rfl (by kernel_rfl) (by kernel_rfl) (by kernel_rfl) (fun _ _ _ h=>h) (Or.inl ⟨by rfl,?_⟩) hS ?_
    rotate_left
    · (intro w hSw;(try dsimp only at hSw);go_simp;(try with_reducible rfl))
    rotate_left
    simp only [Act.put,zq0,zq1,zq2,zq3,zq4,zq5]
    refine wpAnyH_take (i:=37) (v:=?_) rfl (by kernel_rfl) (by kernel_rfl) (by kernel_rfl) (fun _ _ _ h=>h) (Or.inl ⟨by rfl,?_⟩) hS ?_
    rotate_left
    · (intro w hSw;(try dsimp only at hSw);go_simp;(try with_reducible rfl))
    rotate_left
    simp only [Act.put,zq0,zq1,zq2,zq3,zq4,zq5]
    refine wpAnyH_take (i:=38) (v:=?_) rfl (by kernel_rfl) (by kernel_rfl) (by kernel_rfl) (fun _ _ _ h=>h) (Or.inr ⟨by rfl,?_⟩) hS ?_
    rotate_left
    · rfl
    rotate_left
    simp only [Act.put,zq0,zq1,zq2,zq3,zq4,zq5]
    refine wpAnyH_take (i:=39) (v:=?_) rfl (by kernel_rfl) (by kernel_rfl) (by kernel_rfl) (fun _ _ _ h=>h) (Or.inr ⟨by rfl,?_⟩) hS ?_
    rotate_left
    · rfl
    rotate_left
    simp only [Act.put,zq0,zq1,zq2,zq3,zq4,zq5]
    refine wpAnyH_take (i:=40) (v:=?_) rfl (by kernel_rfl) (by kernel_rfl) (by kernel_rfl) (fun _ _ _ h=>h) (Or.inr ⟨by rfl,?_⟩) hS ?_
    rotate_left
    · rfl
    rotate_left
    simp only [Act.put,zq0,zq1,zq2,zq3,zq4,zq5]
    refine wpAnyH_take (i:=41) (v:=?_) rfl (by kernel_rfl) (by kernel_rfl) (by kernel_rfl) (fun _ _ _ h=>h) (Or.inr ⟨by rfl,?_⟩) hS ?_
    rotate_left
    · rfl
    rotate_left
    simp only [Act.put,zq0,zq1,zq2,zq3,zq4,zq5]
    refine wpAnyH_take (i:=42) (v:=?_) rfl (by kernel_rfl) (by kernel_rfl) (by kernel_rfl) (fun _ _ _ h=>h) (Or.inr ⟨by rfl,?_⟩) hS ?_
    rotate_left
    · rfl
    rotate_left
    simp only [Act.put,zq0,zq1,zq2,zq3,zq4,zq5]
    refine wpAnyH_take (i:=43) (v:=?_) rfl (by kernel_rfl) (by kernel_rfl) (by kernel_rfl) (fun _ _ _ h=>h) (Or.inr ⟨by rfl,?_⟩) hS ?_
    rotate_left
    · rfl
    rotate_left
    simp only [Act.put,zq0,zq1,zq2,zq3,zq4,zq5]
    refine wpAnyH_take (i:=44) (v:=?_) rfl (by kernel_rfl) (by kernel_rfl) (by kernel_rfl) (fun _ _ _ h=>h) (Or.inr ⟨by rfl,?_⟩) hS ?_
    rotate_left
    · rfl
    rotate_left
    simp only [Act.put,zq0,zq1,zq2,zq3,zq4,zq5]
    refine wpAnyH_take (i:=45) (v:=?_) rfl (by kernel_rfl) (by kernel_rfl) (by kernel_rfl) (fun _ _ _ h=>h) (Or.inr ⟨by rfl,?_⟩) hS ?_
    rotate_left
    · rfl
    rotate_left
    simp only [Act.put,zq0,zq1,zq2,zq3,zq4,zq5]
    refine wpAnyH_take (i:=46) (v:=?_) rfl (by kernel_rfl) (by kernel_rfl) (by kernel_rfl) (fun _ _ _ h=>h) (Or.inr ⟨by rfl,?_⟩) hS ?_
    rotate_left
    · rfl
    rotate_left
    simp only [Act.put,zq0,zq1,zq2,zq3,zq4,zq5]
    refine wpAnyH_take (i:=47) (v:=?_) rfl (by kernel_rfl) (by kernel_rfl) (by kernel_rfl) (fun _ _ _ h=>h) (Or.inr ⟨by rfl,?_⟩) hS ?_
    rotate_left
    · rfl
    rotate_left
    simp only [Act.put,zq0,zq1,zq2,zq3,zq4,zq5]
    refine wpAnyH_take (i:=48) (v:=?_) rfl (by kernel_rfl) (by kernel_rfl) (by kernel_rfl) (fun _ _ _ h=>h) (Or.inr ⟨by rfl,?_⟩) hS ?_
    rotate_left
    · rfl
    rotate_left
    simp only [Act.put,zq0,zq1,zq2,zq3,zq4,zq5]
    refine wpAnyH_take (i:=49) (v:=?_) rfl (by kernel_rfl) (by kernel_rfl) (by kernel_rfl) (fun _ _ _ h=>h) (Or.inr ⟨by rfl,?_⟩) hS ?_
    rotate_left
    · rfl
    rotate_left
    simp only [Act.put,zq0,zq1,zq2,zq3,zq4,zq5]
    refine wpAnyH_take (i:=50) (v:=?_) rfl (by kernel_rfl) (by kernel_rfl) (by kernel_rfl) (fun _ _ _ h=>h) (Or.inl ⟨by rfl,?_⟩) hS ?_
    rotate_left
    · (intro w hSw;(try dsimp only at hSw);go_simp;(try with_reducible rfl))
    rotate_left
    simp only [Act.put,zq0,zq1,zq2,zq3,zq4,zq5]
    refine wpAnyH_take (i:=51) (v:=?_) rfl (by kernel_rfl) (by kernel_rfl) (by kernel_rfl) (fun _ _ _ h=>h) (Or.inl ⟨by rfl,?_⟩) hS ?_
    rotate_left
    · (intro w hSw;(try dsimp only at hSw);go_simp;(try with_reducible rfl))
    rotate_left
    simp only [Act.put,zq0,zq1,zq2,zq3,zq4,zq5]
    refine wpAnyH_take (i:=52) (v:=?_) rfl (by kernel_rfl) (by kernel_rfl) (by kernel_rfl) (fun _ _ _ h=>h) (Or.inr ⟨by rfl,?_⟩) hS ?_
    rotate_left
    · rfl
    rotate_left
    simp only [Act.put,zq0,zq1,zq2,zq3,zq4,zq5]
    refine wpAnyH_take (i:=53) (v:=?_) rfl (by kernel_rfl) (by kernel_rfl) (by kernel_rfl) (fun _ _ _ h=>h) (Or.inr ⟨by rfl,?_⟩) hS ?_
    rotate_left
    · rfl
    rotate_left
    simp only [Act.put,zq0,zq1,zq2,zq3,zq4,zq5]
    refine wpAnyH_take (i:=54) (v:=?_) rfl (by kernel_rfl) (by kernel_rfl) (by kernel_rfl) (fun _ _ _ h=>h) (Or.inr ⟨by rfl,?_⟩) hS ?_
    rotate_left
    · rfl
    rotate_left
    simp only [Act.put,zq0,zq1,zq2,zq3,zq4,zq5]
    refine wpAnyH_take (i:=55) (v:=?_) rfl (by kernel_rfl) (by kernel_rfl) (by kernel_rfl) (fun _ _ _ h=>h) (Or.inr ⟨by rfl,?_⟩) hS ?_
    rotate_left
    · rfl
    rotate_left
    simp only [Act.put,zq0,zq1,zq2,zq3,zq4,zq5]
    refine wpAnyH_take (i:=56) (v:=?_) rfl (by kernel_rfl) (by kernel_rfl) (by kernel_rfl) (fun _ _ _ h=>h) (Or.inr ⟨by rfl,?_⟩) hS ?_
    rotate_left
    · rfl
    rotate_left
    simp only [Act.put,zq0,zq1,zq2,zq3,zq4,zq5]
    refine wpAnyH_take (i:=57) (v:=?_) rfl (by kernel_rfl) (by kernel_rfl) (by kernel_rfl) (fun _ _ _ h=>h) (Or.inr ⟨by rfl,?_⟩) hS ?_
    rotate_left
    · rfl
    rotate_left
    simp only [Act.put,zq0,zq1,zq2,zq3,zq4,zq5]
    refine wpAnyH_take (i:=58) (v:=?_) rfl (by kernel_rfl) (by kernel_rfl) (by kernel_rfl) (fun _ _ _ h=>h) (Or.inr ⟨by rfl,?_⟩) hS ?_
    rotate_left
    · rfl
    rotate_left
    simp only [Act.put,zq0,zq1,zq2,zq3,zq4,zq5]
    refine wpAnyH_take (i:=59) (v:=?_) rfl (by kernel_rfl) (by kernel_rfl) (by kernel_rfl) (fun _ _ _ h=>h) (Or.inr ⟨by rfl,?_⟩) hS ?_
    rotate_left
    · rfl
    rotate_left
    simp only [Act.put,zq0,zq1,zq2,zq3,zq4,zq5]
    refine wpAnyH_take (i:=60) (v:=?_) rfl (by kernel_rfl) (by kernel_rfl) (by kernel_rfl) (fun _ _ _ h=>h) (Or.inr ⟨by rfl,?_⟩) hS ?_
    rotate_left
    · rfl
    rotate_left
    simp only [Act.put,zq0,zq1,zq2,zq3,zq4,zq5]
    refine wpAnyH_take (i:=61) (v:=?_) rfl (by kernel_rfl) (by kernel_rfl) (by kernel_rfl) (fun _ _ _ h=>h) (Or.inr ⟨by rfl,?_⟩) hS ?_
    rotate_left
    · rfl
    rotate_left
    simp only [Act.put,zq0,zq1,zq2,zq3,zq4,zq5]
    refine wpAnyH_take (i:=62) (v:=?_) rfl (by kernel_rfl) (by kernel_rfl) (by kernel_rfl) (fun _ _ _ h=>h) (Or.inr ⟨by rfl,?_⟩) hS ?_
    rotate_left
    · rfl
    rotate_left
    simp only [Act.put,zq0,zq1,zq2,zq3,zq4,zq5]
    refine wpAnyH_take (i:=63) (v:=?_) rfl (by kernel_rfl) (by kernel_rfl) (by kernel_rfl) (fun _ _ _ h=>h) (Or.inl ⟨by rfl,?_⟩) hS ?_
    rotate_left
    · (intro w hSw;(try dsimp only at hSw);go_simp;(try with_reducible rfl))
    rotate_left
    simp only [Act.put,zq0,zq1,zq2,zq3,zq4,zq5]
    refine wpAnyH_done (by kernel_rfl) ?_ _
    have HT:=Lib.hid hS.1
    clear hS
    go_wp2_with fail
    go_meet
    exact ⟨by rw [hb.out],HT.out⟩
  | true=>
  refine wpAnyH_take (i:=14) (v:=?_) rfl (by kernel_rfl) (by kernel_rfl) (by kernel_rfl) (fun _ _ _ h=>h) (Or.inl ⟨by rfl,?_⟩) hS ?_
  rotate_left
  · (intro w hSw;(try dsimp only at hSw);go_simp;(try with_reducible rfl))
  rotate_left
  simp only [Act.put,zq0,zq1,zq2,zq3,zq4,zq5]
  refine wpAnyH_take (i:=15) (v:=?_) rfl (by kernel_rfl) (by kernel_rfl) (by kernel_rfl) (fun _ _ _ h=>h) (Or.inl ⟨by rfl,?_⟩) hS ?_
  rotate_left
  · (intro w hSw;(try dsimp only at hSw);go_simp;(try with_reducible rfl))
  rotate_left
  simp only [Act.put,zq0,zq1,zq2,zq3,zq4,zq5]
  refine wpAnyH_take (i:=16) (v:=?_) rfl (by kernel_rfl) (by kernel_rfl) (by kernel_rfl) (fun _ _ _ h=>h) (Or.inl ⟨by rfl,?_⟩) hS ?_
  rotate_left
  · (intro w hSw;(try dsimp only at hSw);go_simp;(try with_reducible rfl))
  rotate_left
  simp only [Act.put,zq0,zq1,zq2,zq3,zq4,zq5]
  refine wpAnyH_take (i:=17) (v:=?_) rfl (by kernel_rfl) (by kernel_rfl) (by kernel_rfl) (fun _ _ _ h=>h) (Or.inl ⟨by rfl,?_⟩) hS ?_
  rotate_left
  · (intro w hSw;(try dsimp only at hSw);go_simp;(try with_reducible rfl))
  rotate_left
  simp only [Act.put,zq0,zq1,zq2,zq3,zq4,zq5]
  refine wpAnyH_take (i:=18) (v:=?_) rfl (by kernel_rfl) (by kernel_rfl) (by kernel_rfl) (fun _ _ _ h=>h) (Or.inl ⟨by rfl,?_⟩) hS ?_
  rotate_left
  · (intro w hSw;(try dsimp only at hSw);go_simp;(try with_reducible rfl))
  rotate_left
  simp only [Act.put,zq0,zq1,zq2,zq3,zq4,zq5]
  refine wpAnyH_take (i:=19) (v:=?_) rfl (by kernel_rfl) (by kernel_rfl) (by kernel_rfl) (fun _ _ _ h=>h) (Or.inl ⟨by rfl,?_⟩) hS ?_
  rotate_left
  · (intro w hSw;(try dsimp only at hSw);go_simp;(try with_reducible rfl))
  rotate_left
  simp only [Act.put,zq0,zq1,zq2,zq3,zq4,zq5]
  refine wpAnyH_take (i:=20) (v:=?_) rfl (by kernel_rfl) (by kernel_rfl) (by kernel_rfl) (fun _ _ _ h=>h) (Or.inl ⟨by rfl,?_⟩) hS ?_
  rotate_left
  · (intro w hSw;(try dsimp only at hSw);go_simp;(try with_reducible rfl))
  rotate_left
  simp only [Act.put,zq0,zq1,zq2,zq3,zq4,zq5]
  refine wpAnyH_take (i:=21) (v:=?_) rfl (by kernel_rfl) (by kernel_rfl) (by kernel_rfl) (fun _ _ _ h=>h) (Or.inl ⟨by rfl,?_⟩) hS ?_
  rotate_left
  · (intro w hSw;(try dsimp only at hSw);go_simp;(try with_reducible rfl))
  rotate_left
  simp only [Act.put,zq0,zq1,zq2,zq3,zq4,zq5]
  rcases Bool.eq_false_or_eq_true (decide (gt < 0)) with e3 | e3
  · have hb : Hid (bd = true):=by show _ = _;rw [HBD.out,e3];rfl
    refine wpAnyH_take (i:=22) (v:=?_) rfl (by kernel_rfl) (by kernel_rfl) (by kernel_rfl) (fun _ _ _ h=>h) (Or.inl ⟨by rfl,?_⟩) hS ?_
    rotate_left
    · (intro w hSw;(try dsimp only at hSw);go_simp;(try with_reducible rfl))
    rotate_left
    simp only [Act.put,zq0,zq1,zq2,zq3,zq4,zq5]
    refine wpAnyH_take (i:=23) (v:=?_) rfl (by kernel_rfl) (by kernel_rfl) (by kernel_rfl) (fun _ _ _ h=>h) (Or.inl ⟨by rfl,?_⟩) hS ?_
    rotate_left
    · (intro w hSw;(try dsimp only at hSw);go_simp;(try with_reducible rfl))
    rotate_left
    simp only [Act.put,zq0,zq1,zq2,zq3,zq4,zq5]
    refine wpAnyH_take (i:=24) (v:=?_) rfl (by kernel_rfl) (by kernel_rfl) (by kernel_rfl) (fun _ _ _ h=>h) (Or.inl ⟨by rfl,?_⟩) hS ?_
    rotate_left
    · (intro w hSw;(try dsimp only at hSw);go_simp;(try with_reducible rfl))
    rotate_left
    simp only [Act.put,zq0,zq1,zq2,zq3,zq4,zq5]
    refine wpAnyH_take (i:=25) (v:=?_) rfl (by kernel_rfl) (by kernel_rfl) (by kernel_rfl) (fun _ _ _ h=>h) (Or.inr ⟨by rfl,?_⟩) hS ?_
    rotate_left
    · rfl
    rotate_left
    simp only [Act.put,zq0,zq1,zq2,zq3,zq4,zq5]
    refine wpAnyH_take (i:=26) (v:=?_) rfl (by kernel_rfl) (by kernel_rfl) (by kernel_rfl) (fun _ _ _ h=>h) (Or.inr ⟨by rfl,?_⟩) hS ?_
    rotate_left
    · rfl
    rotate_left
    simp only [Act.put,zq0,zq1,zq2,zq3,zq4,zq5]
    refine wpAnyH_take (i:=27) (v:=?_) rfl (by kernel_rfl) (by kernel_rfl) (by kernel_rfl) (fun _ _ _ h=>h) (Or.inr ⟨by rfl,?_⟩) hS ?_
    rotate_left
    · rfl
    rotate_left
    simp only [Act.put,zq0,zq1,zq2,zq3,zq4,zq5]
    refine wpAnyH_take (i:=28) (v:=?_) rfl (by kernel_rfl) (by kernel_rfl) (by kernel_rfl) (fun _ _ _ h=>h) (Or.inr ⟨by rfl,?_⟩) hS ?_
    rotate_left
    · rfl
    rotate_left
    simp only [Act.put,zq0,zq1,zq2,zq3,zq4,zq5]
    refine wpAnyH_take (i:=29) (v:=?_) rfl (by kernel_rfl) (by kernel_rfl) (by kernel_rfl) (fun _ _ _ h=>h) (Or.inr ⟨by rfl,?_⟩) hS ?_
    rotate_left
    · rfl
    rotate_left
    simp only [Act.put,zq0,zq1,zq2,zq3,zq4,zq5]
    refine wpAnyH_take (i:=30) (v:=?_) rfl (by kernel_rfl) (by kernel_rfl) (by kernel_rfl) (fun _ _ _ h=>h) (Or.inr ⟨by rfl,?_⟩) hS ?_
    rotate_left
    · rfl
    rotate_left
    simp only [Act.put,zq0,zq1,zq2,zq3,zq4,zq5]
    refine wpAnyH_take (i:=31) (v:=?_) rfl (by kernel_rfl) (by kernel_rfl) (by kernel_rfl) (fun _ _ _ h=>h) (Or.inr ⟨by rfl,?_⟩) hS ?_
    rotate_left
    · rfl
    rotate_left
    simp only [Act.put,zq0,zq1,zq2,zq3,zq4,zq5]
    refine wpAnyH_take (i:=32) (v:=?_) rfl (by kernel_rfl) (by kernel_rfl) (by kernel_rfl) (fun _ _ _ h=>h) (Or.inr ⟨by rfl,?_⟩) hS ?_
    rotate_left
    · rfl
    rotate_left
    simp only [Act.put,zq0,zq1,zq2,zq3,zq4,zq5]
    refine wpAnyH_take (i:=33) (v:=?_) rfl (by kernel_rfl) (by kernel_rfl) (by kernel_rfl) (fun _ _ _ h=>h) (Or.inr ⟨by rfl,?_⟩) hS ?_
    rotate_left
    · rfl
    rotate_left
    simp only [Act.put,zq0,zq1,zq2,zq3,zq4,zq5]
    refine wpAnyH_take (i:=34) (v:=?_) rfl (by kernel_rfl) (by kernel_rfl) (by kernel_rfl) (fun _ _ _ h=>h) (Or.inr ⟨by rfl,?_⟩) hS ?_
    rotate_left
    · rfl
    rotate_left
    simp only [Act.put,zq0,zq1,zq2,zq3,zq4,zq5]
    refine wpAnyH_take (i:=35) (v:=?_) rfl (by kernel_rfl) (by kernel_rfl) (by kernel_rfl) (fun _ _ _ h=>h) (Or.inr ⟨by rfl,?_⟩) hS ?_
    rotate_left
    · rfl
    rotate_left
    simp only [Act.put,zq0,zq1,zq2,zq3,zq4,zq5]
    refine wpAnyH_take (i:=36) (v:=?_) rfl (by kernel_rfl) (by kernel_rfl) (by kernel_rfl) (fun _ _ _ h=>h) (Or.inl ⟨by rfl,?_⟩) hS ?_
    rotate_left
    · (intro w hSw;(try dsimp only at hSw);go_simp;(try with_reducible rfl))
    rotate_left
    simp only [Act.put,zq0,zq1,zq2,zq3,zq4,zq5]
    refine wpAnyH_take (i:=37) (v:=?_) rfl (by kernel_rfl) (by kernel_rfl) (by kernel_rfl) (fun _ _ _ h=>h) (Or.inl ⟨by rfl,?_⟩) hS ?_
    rotate_left
    · (intro w hSw;(try dsimp only at hSw);go_simp;(try with_reducible rfl))
    rotate_left
    simp only [Act.put,zq0,zq1,zq2,zq3,zq4,zq5]
    refine wpAnyH_take (i:=38) (v:=?_) rfl (by kernel_rfl) (by kernel_rfl) (by kernel_rfl) (fun _ _ _ h=>h) (Or.inr ⟨by rfl,?_⟩) hS ?_
    rotate_left
    · rfl
    rotate_left
    simp only [Act.put,zq0,zq1,zq2,zq3,zq4,zq5]
    refine wpAnyH_take (i:=39) (v:=?_) rfl (by kernel_rfl) (by kernel_rfl) (by kernel_rfl) (fun _ _ _ h=>h) (Or.inr ⟨by rfl,?_⟩) hS ?_
    rotate_left
    · rfl
    rotate_left
    simp only [Act.put,zq0,zq1,zq2,zq3,zq4,zq5]
    refine wpAnyH_take (i:=40) (v:=?_) rfl (by kernel_rfl) (by kernel_rfl) (by kernel_rfl) (fun _ _ _ h=>h) (Or.inr ⟨by rfl,?_⟩) hS ?_
    rotate_left
    · rfl
    rotate_left
    simp only [Act.put,zq0,zq1,zq2,zq3,zq4,zq5]
    refine wpAnyH_take (i:=41) (v:=?_) rfl (by kernel_rfl) (by kernel_rfl) (by kernel_rfl) (fun _ _ _ h=>h) (Or.inr ⟨by rfl,?_⟩) hS ?_
    rotate_left
    · rfl
    rotate_left
    simp only [Act.put,zq0,zq1,zq2,zq3,zq4,zq5]
    refine wpAnyH_take (i:=42) (v:=?_) rfl (by kernel_rfl) (by kernel_rfl) (by kernel_rfl) (fun _ _ _ h=>h) (Or.inr ⟨by rfl,?_⟩) hS ?_
    rotate_left
    · rfl
    rotate_left
    simp only [Act.put,zq0,zq1,zq2,zq3,zq4,zq5]
    refine wpAnyH_take (i:=43) (v:=?_) rfl (by kernel_rfl) (by kernel_rfl) (by kernel_rfl) (fun _ _ _ h=>h) (Or.inr ⟨by rfl,?_⟩) hS ?_
    rotate_left
    · rfl
    rotate_left
    simp only [Act.put,zq0,zq1,zq2,zq3,zq4,zq5]
    refine wpAnyH_take (i:=44) (v:=?_) rfl (by kernel_rfl) (by kernel_rfl) (by kernel_rfl) (fun _ _ _ h=>h) (Or.inr ⟨by rfl,?_⟩) hS ?_
    rotate_left
    · rfl
    rotate_left
    simp only [Act.put,zq0,zq1,zq2,zq3,zq4,zq5]
    refine wpAnyH_take (i:=45) (v:=?_) rfl (by kernel_rfl) (by kernel_rfl) (by kernel_rfl) (fun _ _ _ h=>h) (Or.inr ⟨by rfl,?_⟩) hS ?_
    rotate_left
    · rfl
    rotate_left
    simp only [Act.put,zq0,zq1,zq2,zq3,zq4,zq5]
    refine wpAnyH_take (i:=46) (v:=?_) rfl (by kernel_rfl) (by kernel_rfl) (by kernel_rfl) (fun _ _ _ h=>h) (Or.inr ⟨by rfl,?_⟩) hS ?_
    rotate_left
    · rfl
    rotate_left
    simp only [Act.put,zq0,zq1,zq2,zq3,zq4,zq5]
    refine wpAnyH_take (i:=47) (v:=?_) rfl (by kernel_rfl) (by kernel_rfl) (by kernel_rfl) (fun _ _ _ h=>h) (Or.inr ⟨by rfl,?_⟩) hS ?_
    rotate_left
    · rfl
    rotate_left
    simp only [Act.put,zq0,zq1,zq2,zq3,zq4,zq5]
    refine wpAnyH_take (i:=48) (v:=?_) rfl (by kernel_rfl) (by kernel_rfl) (by kernel_rfl) (fun _ _ _ h=>h) (Or.inr ⟨by rfl,?_⟩) hS ?_
    rotate_left
    · rfl
    rotate_left
    simp only [Act.put,zq0,zq1,zq2,zq3,zq4,zq5]
    refine wpAnyH_take (i:=49) (v:=?_) rfl (by kernel_rfl) (by kernel_rfl) (by kernel_rfl) (fun _ _ _ h=>h) (Or.inr ⟨by rfl,?_⟩) hS ?_
    rotate_left
    · rfl
    rotate_left
    simp only [Act.put,zq0,zq1,zq2,zq3,zq4,zq5]
    refine wpAnyH_take (i:=50) (v:=?_) rfl (by kernel_rfl) (by kernel_rfl) (by kernel_rfl) (fun _ _ _ h=>h) (Or.inl ⟨by rfl,?_⟩) hS ?_
    rotate_left
    · (intro w hSw;(try dsimp only at hSw);go_simp;(try with_reducible rfl))
    rotate_left
    simp only [Act.put,zq0,zq1,zq2,zq3,zq4,zq5]
    refine wpAnyH_take (i:=51) (v:=?_) rfl (by kernel_rfl) (by kernel_rfl) (by kernel_rfl) (fun _ _ _ h=>h) (Or.inl ⟨by rfl,?_⟩) hS ?_
    rotate_left
    · (intro w hSw;(try dsimp only at hSw);go_simp;(try with_reducible rfl))
    rotate_left
    simp only [Act.put,zq0,zq1,zq2,zq3,zq4,zq5]
    refine wpAnyH_take (i:=52) (v:=?_) rfl (by kernel_rfl) (by kernel_rfl) (by kernel_rfl) (fun _ _ _ h=>h) (Or.inr ⟨by rfl,?_⟩) hS ?_
    rotate_left
    · rfl
    rotate_left
    simp only [Act.put,zq0,zq1,zq2,zq3,zq4,zq5]
    refine wpAnyH_take (i:=53) (v:=?_) rfl (by kernel_rfl) (by kernel_rfl) (by kernel_rfl) (fun _ _ _ h=>h) (Or.inr ⟨by rfl,?_⟩) hS ?_
    rotate_left
    · rfl
    rotate_left
    simp only [Act.put,zq0,zq1,zq2,zq3,zq4,zq5]
    refine wpAnyH_take (i:=54) (v:=?_) rfl (by kernel_rfl) (by kernel_rfl) (by kernel_rfl) (fun _ _ _ h=>h) (Or.inr ⟨by rfl,?_⟩) hS ?_
    rotate_left
    · rfl
    rotate_left
    simp only [Act.put,zq0,zq1,zq2,zq3,zq4,zq5]
    refine wpAnyH_take (i:=55) (v:=?_) rfl (by kernel_rfl) (by kernel_rfl) (by kernel_rfl) (fun _ _ _ h=>h) (Or.inr ⟨by rfl,?_⟩) hS ?_
    rotate_left
    · rfl
    rotate_left
    simp only [Act.put,zq0,zq1,zq2,zq3,zq4,zq5]
    refine wpAnyH_take (i:=56) (v:=?_) rfl (by kernel_rfl) (by kernel_rfl) (by kernel_rfl) (fun _ _ _ h=>h) (Or.inr ⟨by rfl,?_⟩) hS ?_
    rotate_left
    · rfl
    rotate_left
    simp only [Act.put,zq0,zq1,zq2,zq3,zq4,zq5]
    refine wpAnyH_take (i:=57) (v:=?_) rfl (by kernel_rfl) (by kernel_rfl) (by kernel_rfl) (fun _ _ _ h=>h) (Or.inr ⟨by rfl,?_⟩) hS ?_
    rotate_left
    · rfl
    rotate_left
    simp only [Act.put,zq0,zq1,zq2,zq3,zq4,zq5]
    refine wpAnyH_take (i:=58) (v:=?_) rfl (by kernel_rfl) (by kernel_rfl) (by kernel_rfl) (fun _ _ _ h=>h) (Or.inr ⟨by rfl,?_⟩) hS ?_
    rotate_left
    · rfl
    rotate_left
    simp only [Act.put,zq0,zq1,zq2,zq3,zq4,zq5]
    refine wpAnyH_take (i:=59) (v:=?_) rfl (by kernel_rfl) (by kernel_rfl) (by kernel_rfl) (fun _ _ _ h=>h) (Or.inr ⟨by rfl,?_⟩) hS ?_
    rotate_left
    · rfl
    rotate_left
    simp only [Act.put,zq0,zq1,zq2,zq3,zq4,zq5]
    refine wpAnyH_take (i:=60) (v:=?_) rfl (by kernel_rfl) (by kernel_rfl) (by kernel_rfl) (fun _ _ _ h=>h) (Or.inr ⟨by rfl,?_⟩) hS ?_
    rotate_left
    · rfl
    rotate_left
    simp only [Act.put,zq0,zq1,zq2,zq3,zq4,zq5]
    refine wpAnyH_take (i:=61) (v:=?_) rfl (by kernel_rfl) (by kernel_rfl) (by kernel_rfl) (fun _ _ _ h=>h) (Or.inr ⟨by rfl,?_⟩) hS ?_
    rotate_left
    · rfl
    rotate_left
    simp only [Act.put,zq0,zq1,zq2,zq3,zq4,zq5]
    refine wpAnyH_take (i:=62) (v:=?_) rfl (by kernel_rfl) (by kernel_rfl) (by kernel_rfl) (fun _ _ _ h=>h) (Or.inr ⟨by rfl,?_⟩) hS ?_
    rotate_left
    · rfl
    rotate_left
    simp only [Act.put,zq0,zq1,zq2,zq3,zq4,zq5]
    refine wpAnyH_take (i:=63) (v:=?_) rfl (by kernel_rfl) (by kernel_rfl) (by kernel_rfl) (fun _ _ _ h=>h) (Or.inl ⟨by rfl,?_⟩) hS ?_
    rotate_left
    · (intro w hSw;(try dsimp only at hSw);go_simp;(try with_reducible rfl))
    rotate_left
    simp only [Act.put,zq0,zq1,zq2,zq3,zq4,zq5]
    refine wpAnyH_done (by kernel_rfl) ?_ _
    have HT:=Lib.hid hS.1
    clear hS
    go_wp2_with fail
    go_meet
    exact ⟨by rw [hb.out],HT.out⟩
  have E3:=Lib.hid e3
  refine wpAnyH_take (i:=22) (v:=?_) rfl (by kernel_rfl) (by kernel_rfl) (by kernel_rfl) (fun _ _ _ h=>h) (Or.inl ⟨by rfl,?_⟩) hS ?_
  rotate_left
  · (intro w hSw;(try dsimp only at hSw);go_simp;(try with_reducible rfl))
  rotate_left
  simp only [Act.put,zq0,zq1,zq2,zq3,zq4,zq5]
  refine wpAnyH_take (i:=23) (v:=?_) rfl (by kernel_rfl) (by kernel_rfl) (by kernel_rfl) (fun _ _ _ h=>h) (Or.inl ⟨by rfl,?_⟩) hS ?_
  rotate_left
  · (intro w hSw;(try dsimp only at hSw);go_simp;(try with_reducible rfl))
  rotate_left
  simp only [Act.put,zq0,zq1,zq2,zq3,zq4,zq5]
  refine wpAnyH_take (i:=24) (v:=?_) rfl (by kernel_rfl) (by kernel_rfl) (by kernel_rfl) (fun _ _ _ h=>h) (Or.inl ⟨by rfl,?_⟩) hS ?_
  rotate_left
  · (intro w hSw;(try dsimp only at hSw);go_simp;(try with_reducible rfl))
  rotate_left
  simp only [Act.put,zq0,zq1,zq2,zq3,zq4,zq5]
  refine wpAnyH_take (i:=25) (v:=?_) rfl (by kernel_rfl) (by kernel_rfl) (by kernel_rfl) (fun _ _ _ h=>h) (Or.inl ⟨by rfl,?_⟩) hS ?_
  rotate_left
  · (intro w hSw;(try dsimp only at hSw);go_simp;(try with_reducible rfl))
  rotate_left
  simp only [Act.put,zq0,zq1,zq2,zq3,zq4,zq5]
  refine wpAnyH_take (i:=26) (v:=?_) rfl (by kernel_rfl) (by kernel_rfl) (by kernel_rfl) (fun _ _ _ h=>h) (Or.inl ⟨by rfl,?_⟩) hS ?_
  rotate_left
  · (intro w hSw;(try dsimp only at hSw);go_simp;(try with_reducible rfl))
  rotate_left
  simp only [Act.put,zq0,zq1,zq2,zq3,zq4,zq5]
  refine wpAnyH_take (i:=27) (v:=?_) rfl (by kernel_rfl) (by kernel_rfl) (by kernel_rfl) (fun _ _ _ h=>h) (Or.inl ⟨by rfl,?_⟩) hS ?_
  rotate_left
  · (intro w hSw;(try dsimp only at hSw);go_simp;(try with_reducible rfl))
  rotate_left
  simp only [Act.put,zq0,zq1,zq2,zq3,zq4,zq5]
  refine wpAnyH_take (i:=28) (v:=?_) rfl (by kernel_rfl) (by kernel_rfl) (by kernel_rfl) (fun _ _ _ h=>h) (Or.inl ⟨by rfl,?_⟩) hS ?_
  rotate_left
  · (intro w hSw;(try dsimp only at hSw);go_simp;(try with_reducible rfl))
  rotate_left
  simp only [Act.put,zq0,zq1,zq2,zq3,zq4,zq5]
  refine wpAnyH_take (i:=29) (v:=?_) rfl (by kernel_rfl) (by kernel_rfl) (by kernel_rfl) (fun _ _ _ h=>h) (Or.inl ⟨by rfl,?_⟩) hS ?_
  rotate_left
  · (intro w hSw;(try dsimp only at hSw);go_simp;(try with_reducible rfl))
  rotate_left
  simp only [Act.put,zq0,zq1,zq2,zq3,zq4,zq5]
  refine wpAnyH_take (i:=30) (v:=?_) rfl (by kernel_rfl) (by kernel_rfl) (by kernel_rfl) (fun _ _ _ h=>h) (Or.inl ⟨by rfl,?_⟩) hS ?_
  rotate_left
  · (intro w hSw;(try dsimp only at hSw);go_simp;(try with_reducible rfl))
  rotate_left
  simp only [Act.put,zq0,zq1,zq2,zq3,zq4,zq5]
  refine wpAnyH_take (i:=31) (v:=?_) rfl (by kernel_rfl) (by kernel_rfl) (by kernel_rfl) (fun _ _ _ h=>h) (Or.inl ⟨by rfl,?_⟩) hS ?_
  rotate_left
  · (intro w hSw;(try dsimp only at hSw);go_simp;(try with_reducible rfl))
  rotate_left
  simp only [Act.put,zq0,zq1,zq2,zq3,zq4,zq5]
  refine wpAnyH_take (i:=32) (v:=?_) rfl (by kernel_rfl) (by kernel_rfl) (by kernel_rfl) (fun _ _ _ h=>h) (Or.inl ⟨by rfl,?_⟩) hS ?_
  rotate_left
  · (intro w hSw;(try dsimp only at hSw);go_simp;(try with_reducible rfl))
  rotate_left
  simp only [Act.put,zq0,zq1,zq2,zq3,zq4,zq5]
  refine wpAnyH_take (i:=33) (v:=?_) rfl (by kernel_rfl) (by kernel_rfl) (by kernel_rfl) (fun _ _ _ h=>h) (Or.inl ⟨by rfl,?_⟩) hS ?_
  rotate_left
  · (intro w hSw;(try dsimp only at hSw);go_simp;(try with_reducible rfl))
  rotate_left
  simp only [Act.put,zq0,zq1,zq2,zq3,zq4,zq5]
  refine wpAnyH_take (i:=34) (v:=?_) rfl (by kernel_rfl) (by kernel_rfl) (by kernel_rfl) (fun _ _ _ h=>h) (Or.inl ⟨by rfl,?_⟩) hS ?_
  rotate_left
  · (intro w hSw;(try dsimp only at hSw);go_simp;(try with_reducible rfl))
  rotate_left
  simp only [Act.put,zq0,zq1,zq2,zq3,zq4,zq5]
  clear e3
  rcases Bool.eq_false_or_eq_true (decide (l ≤ gt)) with e4 | e4
  · have hb : Hid (bd = true):=by show _ = _;rw [HBD.out,E3.out,e4];rfl
    refine wpAnyH_take (i:=35) (v:=?_) rfl (by kernel_rfl) (by kernel_rfl) (by kernel_rfl) (fun _ _ _ h=>h) (Or.inl ⟨by rfl,?_⟩) hS ?_
    rotate_left
    · (intro w hSw;(try dsimp only at hSw);go_simp;(try with_reducible rfl))
    rotate_left
    simp only [Act.put,zq0,zq1,zq2,zq3,zq4,zq5]
    refine wpAnyH_take (i:=36) (v:=?_) rfl (by kernel_rfl) (by kernel_rfl) (by kernel_rfl) (fun _ _ _ h=>h) (Or.inl ⟨by rfl,?_⟩) hS ?_
    rotate_left
    · (intro w hSw;(try dsimp only at hSw);go_simp;(try with_reducible rfl))
    rotate_left
    simp only [Act.put,zq0,zq1,zq2,zq3,zq4,zq5]
    refine wpAnyH_take (i:=37) (v:=?_) rfl (by kernel_rfl) (by kernel_rfl) (by kernel_rfl) (fun _ _ _ h=>h) (Or.inl ⟨by rfl,?_⟩) hS ?_
    rotate_left
    · (intro w hSw;(try dsimp only at hSw);go_simp;(try with_reducible rfl))
    rotate_left
    simp only [Act.put,zq0,zq1,zq2,zq3,zq4,zq5]
    refine wpAnyH_take (i:=38) (v:=?_) rfl (by kernel_rfl) (by kernel_rfl) (by kernel_rfl) (fun _ _ _ h=>h) (Or.inr ⟨by rfl,?_⟩) hS ?_
    rotate_left
    · rfl
    rotate_left
    simp only [Act.put,zq0,zq1,zq2,zq3,zq4,zq5]
    refine wpAnyH_take (i:=39) (v:=?_) rfl (by kernel_rfl) (by kernel_rfl) (by kernel_rfl) (fun _ _ _ h=>h) (Or.inr ⟨by rfl,?_⟩) hS ?_
    rotate_left
    · rfl
    rotate_left
    simp only [Act.put,zq0,zq1,zq2,zq3,zq4,zq5]
    refine wpAnyH_take (i:=40) (v:=?_) rfl (by kernel_rfl) (by kernel_rfl) (by kernel_rfl) (fun _ _ _ h=>h) (Or.inr ⟨by rfl,?_⟩) hS ?_
    rotate_left
    · rfl
    rotate_left
    simp only [Act.put,zq0,zq1,zq2,zq3,zq4,zq5]
    refine wpAnyH_take (i:=41) (v:=?_) rfl (by kernel_rfl) (by kernel_rfl) (by kernel_rfl) (fun _ _ _ h=>h) (Or.inr ⟨by rfl,?_⟩) hS ?_
    rotate_left
    · rfl
    rotate_left
    simp only [Act.put,zq0,zq1,zq2,zq3,zq4,zq5]
    refine wpAnyH_take (i:=42) (v:=?_) rfl (by kernel_rfl) (by kernel_rfl) (by kernel_rfl) (fun _ _ _ h=>h) (Or.inr ⟨by rfl,?_⟩) hS ?_
    rotate_left
    · rfl
    rotate_left
    simp only [Act.put,zq0,zq1,zq2,zq3,zq4,zq5]
    refine wpAnyH_take (i:=43) (v:=?_) rfl (by kernel_rfl) (by kernel_rfl) (by kernel_rfl) (fun _ _ _ h=>h) (Or.inr ⟨by rfl,?_⟩) hS ?_
    rotate_left
    · rfl
    rotate_left
    simp only [Act.put,zq0,zq1,zq2,zq3,zq4,zq5]
    refine wpAnyH_take (i:=44) (v:=?_) rfl (by kernel_rfl) (by kernel_rfl) (by kernel_rfl) (fun _ _ _ h=>h) (Or.inr ⟨by rfl,?_⟩) hS ?_
    rotate_left
    · rfl
    rotate_left
    simp only [Act.put,zq0,zq1,zq2,zq3,zq4,zq5]
    refine wpAnyH_take (i:=45) (v:=?_) rfl (by kernel_rfl) (by kernel_rfl) (by kernel_rfl) (fun _ _ _ h=>h) (Or.inr ⟨by rfl,?_⟩) hS ?_
    rotate_left
    · rfl
    rotate_left
    simp only [Act.put,zq0,zq1,zq2,zq3,zq4,zq5]
    refine wpAnyH_take (i:=46) (v:=?_) rfl (by kernel_rfl) (by kernel_rfl) (by kernel_rfl) (fun _ _ _ h=>h) (Or.inr ⟨by rfl,?_⟩) hS ?_
    rotate_left
    · rfl
    rotate_left
    simp only [Act.put,zq0,zq1,zq2,zq3,zq4,zq5]
    refine wpAnyH_take (i:=47) (v:=?_) rfl (by kernel_rfl) (by kernel_rfl) (by kernel_rfl) (fun _ _ _ h=>h) (Or.inr ⟨by rfl,?_⟩) hS ?_
    rotate_left
    · rfl
    rotate_left
    simp only [Act.put,zq0,zq1,zq2,zq3,zq4,zq5]
    refine wpAnyH_take (i:=48) (v:=?_) rfl (by kernel_rfl) (by kernel_rfl) (by kernel_rfl) (fun _ _ _ h=>h) (Or.inr ⟨by rfl,?_⟩) hS ?_
    rotate_left
    · rfl
    rotate_left
    simp only [Act.put,zq0,zq1,zq2,zq3,zq4,zq5]
    refine wpAnyH_take (i:=49) (v:=?_) rfl (by kernel_rfl) (by kernel_rfl) (by kernel_rfl) (fun _ _ _ h=>h) (Or.inr ⟨by rfl,?_⟩) hS ?_
    rotate_left
    · rfl
    rotate_left
    simp only [Act.put,zq0,zq1,zq2,zq3,zq4,zq5]
    refine wpAnyH_take (i:=50) (v:=?_) rfl (by kernel_rfl) (by kernel_rfl) (by kernel_rfl) (fun _ _ _ h=>h) (Or.inl ⟨by rfl,?_⟩) hS ?_
    rotate_left
    · (intro w hSw;(try dsimp only at hSw);go_simp;(try with_reducible rfl))
    rotate_left
    simp only [Act.put,zq0,zq1,zq2,zq3,zq4,zq5]
    refine wpAnyH_take (i:=51) (v:=?_) rfl (by kernel_rfl) (by kernel_rfl) (by kernel_rfl) (fun _ _ _ h=>h) (Or.inl ⟨by rfl,?_⟩) hS ?_
    rotate_left
    · (intro w hSw;(try dsimp only at hSw);go_simp;(try with_reducible rfl))
    rotate_left
    simp only [Act.put,zq0,zq1,zq2,zq3,zq4,zq5]
    refine wpAnyH_take (i:=52) (v:=?_) rfl (by kernel_rfl) (by kernel_rfl) (by kernel_rfl) (fun _ _ _ h=>h) (Or.inr ⟨by rfl,?_⟩) hS ?_
    rotate_left
    · rfl
    rotate_left
    simp only [Act.put,zq0,zq1,zq2,zq3,zq4,zq5]
    refine wpAnyH_take (i:=53) (v:=?_) rfl (by kernel_rfl) (by kernel_rfl) (by kernel_rfl) (fun _ _ _ h=>h) (Or.inr ⟨by rfl,?_⟩) hS ?_
    rotate_left
    · rfl
    rotate_left
    simp only [Act.put,zq0,zq1,zq2,zq3,zq4,zq5]
    refine wpAnyH_take (i:=54) (v:=?_) rfl (by kernel_rfl) (by kernel_rfl) (by kernel_rfl) (fun _ _ _ h=>h) (Or.inr ⟨by rfl,?_⟩) hS ?_
    rotate_left
    · rfl
    rotate_left
    simp only [Act.put,zq0,zq1,zq2,zq3,zq4,zq5]
    refine wpAnyH_take (i:=55) (v:=?_) rfl (by kernel_rfl) (by kernel_rfl) (by kernel_rfl) (fun _ _ _ h=>h) (Or.inr ⟨by rfl,?_⟩) hS ?_
    rotate_left
    · rfl
    rotate_left
    simp only [Act.put,zq0,zq1,zq2,zq3,zq4,zq5]
    refine wpAnyH_take (i:=56) (v:=?_) rfl (by kernel_rfl) (by kernel_rfl) (by kernel_rfl) (fun _ _ _ h=>h) (Or.inr ⟨by rfl,?_⟩) hS ?_
    rotate_left
    · rfl
    rotate_left
    simp only [Act.put,zq0,zq1,zq2,zq3,zq4,zq5]
    refine wpAnyH_take (i:=57) (v:=?_) rfl (by kernel_rfl) (by kernel_rfl) (by kernel_rfl) (fun _ _ _ h=>h) (Or.inr ⟨by rfl,?_⟩) hS ?_
    rotate_left
    · rfl
    rotate_left
    simp only [Act.put,zq0,zq1,zq2,zq3,zq4,zq5]
    refine wpAnyH_take (i:=58) (v:=?_) rfl (by kernel_rfl) (by kernel_rfl) (by kernel_rfl) (fun _ _ _ h=>h) (Or.inr ⟨by rfl,?_⟩) hS ?_
    rotate_left
    · rfl
    rotate_left
    simp only [Act.put,zq0,zq1,zq2,zq3,zq4,zq5]
    refine wpAnyH_take (i:=59) (v:=?_) rfl (by kernel_rfl) (by kernel_rfl) (by kernel_rfl) (fun _ _ _ h=>h) (Or.inr ⟨by rfl,?_⟩) hS ?_
    rotate_left
    · rfl
    rotate_left
    simp only [Act.put,zq0,zq1,zq2,zq3,zq4,zq5]
    refine wpAnyH_take (i:=60) (v:=?_) rfl (by kernel_rfl) (by kernel_rfl) (by kernel_rfl) (fun _ _ _ h=>h) (Or.inr ⟨by rfl,?_⟩) hS ?_
    rotate_left
    · rfl
    rotate_left
    simp only [Act.put,zq0,zq1,zq2,zq3,zq4,zq5]
    refine wpAnyH_take (i:=61) (v:=?_) rfl (by kernel_rfl) (by kernel_rfl) (by kernel_rfl) (fun _ _ _ h=>h) (Or.inr ⟨by rfl,?_⟩) hS ?_
    rotate_left
    · rfl
    rotate_left
    simp only [Act.put,zq0,zq1,zq2,zq3,zq4,zq5]
    refine wpAnyH_take (i:=62) (v:=?_) rfl (by kernel_rfl) (by kernel_rfl) (by kernel_rfl) (fun _ _ _ h=>h) (Or.inr ⟨by rfl,?_⟩) hS ?_
    rotate_left
    · rfl
    rotate_left
    simp only [Act.put,zq0,zq1,zq2,zq3,zq4,zq5]
    refine wpAnyH_take (i:=63) (v:=?_) rfl (by kernel_rfl) (by kernel_rfl) (by kernel_rfl) (fun _ _ _ h=>h) (Or.inl ⟨by rfl,?_⟩) hS ?_
    rotate_left
    · (intro w hSw;(try dsimp only at hSw);go_simp;(try with_reducible rfl))
    rotate_left
    simp only [Act.put,zq0,zq1,zq2,zq3,zq4,zq5]
    refine wpAnyH_done (by kernel_rfl) ?_ _
    have HT:=Lib.hid hS.1
    clear hS
    go_wp2_with fail
    go_meet
    exact ⟨by rw [hb.out],HT.out⟩
  have E4:=Lib.hid e4
  refine wpAnyH_take (i:=35) (v:=?_) rfl (by kernel_rfl) (by kernel_rfl) (by kernel_rfl) (fun _ _ _ h=>h) (Or.inl ⟨by rfl,?_⟩) hS ?_
  rotate_left
  · (intro w hSw;(try dsimp only at hSw);go_simp;(try with_reducible rfl))
  rotate_left
  simp only [Act.put,zq0,zq1,zq2,zq3,zq4,zq5]
  refine wpAnyH_take (i:=36) (v:=?_) rfl (by kernel_rfl) (by kernel_rfl) (by kernel_rfl) (fun _ _ _ h=>h) (Or.inl ⟨by rfl,?_⟩) hS ?_
  rotate_left
  · (intro w hSw;(try dsimp only at hSw);go_simp;(try with_reducible rfl))
  rotate_left
  simp only [Act.put,zq0,zq1,zq2,zq3,zq4,zq5]
  refine wpAnyH_take (i:=37) (v:=?_) rfl (by kernel_rfl) (by kernel_rfl) (by kernel_rfl) (fun _ _ _ h=>h) (Or.inl ⟨by rfl,?_⟩) hS ?_
  rotate_left
  · (intro w hSw;(try dsimp only at hSw);go_simp;(try with_reducible rfl))
  rotate_left
  simp only [Act.put,zq0,zq1,zq2,zq3,zq4,zq5]
  refine wpAnyH_take (i:=38) (v:=?_) rfl (by kernel_rfl) (by kernel_rfl) (by kernel_rfl) (fun _ _ _ h=>h) (Or.inl ⟨by rfl,?_⟩) hS ?_
  rotate_left
  · (intro w hSw;(try dsimp only at hSw);go_simp;(try with_reducible rfl))
  rotate_left
  simp only [Act.put,zq0,zq1,zq2,zq3,zq4,zq5]
  refine wpAnyH_take (i:=39) (v:=?_) rfl (by kernel_rfl) (by kernel_rfl) (by kernel_rfl) (fun _ _ _ h=>h) (Or.inl ⟨by rfl,?_⟩) hS ?_
  rotate_left
  · (intro w hSw;(try dsimp only at hSw);go_simp;(try with_reducible rfl))
  rotate_left
  simp only [Act.put,zq0,zq1,zq2,zq3,zq4,zq5]
  refine wpAnyH_take (i:=40) (v:=?_) rfl (by kernel_rfl) (by kernel_rfl) (by kernel_rfl) (fun _ _ _ h=>h) (Or.inl ⟨by rfl,?_⟩) hS ?_
  rotate_left
  · (intro w hSw;(try dsimp only at hSw);go_simp;(try with_reducible rfl))
  rotate_left
  simp only [Act.put,zq0,zq1,zq2,zq3,zq4,zq5]
  refine wpAnyH_take (i:=41) (v:=?_) rfl (by kernel_rfl) (by kernel_rfl) (by kernel_rfl) (fun _ _ _ h=>h) (Or.inl ⟨by rfl,?_⟩) hS ?_
  rotate_left
  · (intro w hSw;(try dsimp only at hSw);go_simp;(try with_reducible rfl))
  rotate_left
  simp only [Act.put,zq0,zq1,zq2,zq3,zq4,zq5]
  refine wpAnyH_take (i:=42) (v:=?_) rfl (by kernel_rfl) (by kernel_rfl) (by kernel_rfl) (fun _ _ _ h=>h) (Or.inl ⟨by rfl,?_⟩) hS ?_
  rotate_left
  · (intro w hSw;(try dsimp only at hSw);go_simp;(try with_reducible rfl))
  rotate_left
  simp only [Act.put,zq0,zq1,zq2,zq3,zq4,zq5]
  refine wpAnyH_take (i:=43) (v:=?_) rfl (by kernel_rfl) (by kernel_rfl) (by kernel_rfl) (fun _ _ _ h=>h) (Or.inl ⟨by rfl,?_⟩) hS ?_
  rotate_left
  · (intro w hSw;(try dsimp only at hSw);go_simp;(try with_reducible rfl))
  rotate_left
  simp only [Act.put,zq0,zq1,zq2,zq3,zq4,zq5]
  refine wpAnyH_take (i:=44) (v:=?_) rfl (by kernel_rfl) (by kernel_rfl) (by kernel_rfl) (fun _ _ _ h=>h) (Or.inl ⟨by rfl,?_⟩) hS ?_
  rotate_left
  · (intro w hSw;(try dsimp only at hSw);go_simp;(try with_reducible rfl))
  rotate_left
  simp only [Act.put,zq0,zq1,zq2,zq3,zq4,zq5]
  refine wpAnyH_take (i:=45) (v:=?_) rfl (by kernel_rfl) (by kernel_rfl) (by kernel_rfl) (fun _ _ _ h=>h) (Or.inl ⟨by rfl,?_⟩) hS ?_
  rotate_left
  · (intro w hSw;(try dsimp only at hSw);go_simp;(try with_reducible rfl))
  rotate_left
  simp only [Act.put,zq0,zq1,zq2,zq3,zq4,zq5]
  refine wpAnyH_take (i:=46) (v:=?_) rfl (by kernel_rfl) (by kernel_rfl) (by kernel_rfl) (fun _ _ _ h=>h) (Or.inl ⟨by rfl,?_⟩) hS ?_
  rotate_left
  · (intro w hSw;(try dsimp only at hSw);go_simp;(try with_reducible rfl))
  rotate_left
  simp only [Act.put,zq0,zq1,zq2,zq3,zq4,zq5]
  refine wpAnyH_take (i:=47) (v:=?_) rfl (by kernel_rfl) (by kernel_rfl) (by kernel_rfl) (fun _ _ _ h=>h) (Or.inl ⟨by rfl,?_⟩) hS ?_
  rotate_left
  · (intro w hSw;(try dsimp only at hSw);go_simp;(try with_reducible rfl))
  rotate_left
  simp only [Act.put,zq0,zq1,zq2,zq3,zq4,zq5]
  refine wpAnyH_take (i:=48) (v:=?_) rfl (by kernel_rfl) (by kernel_rfl) (by kernel_rfl) (fun _ _ _ h=>h) (Or.inl ⟨by rfl,?_⟩) hS ?_
  rotate_left
  · (intro w hSw;(try dsimp only at hSw);go_simp;(try with_reducible rfl))
  rotate_left
  simp only [Act.put,zq0,zq1,zq2,zq3,zq4,zq5]
  clear e4
  rcases Bool.eq_false_or_eq_true (decide (l < (n : Int))) with e5 | e5
  · have hb : Hid (bd = true):=by show _ = _;rw [HBD.out,E3.out,E4.out,e5];rfl
    refine wpAnyH_take (i:=49) (v:=?_) rfl (by kernel_rfl) (by kernel_rfl) (by kernel_rfl) (fun _ _ _ h=>h) (Or.inl ⟨by rfl,?_⟩) hS ?_
    rotate_left
    · (intro w hSw;(try dsimp only at hSw);go_simp;(try with_reducible rfl))
    rotate_left
    simp only [Act.put,zq0,zq1,zq2,zq3,zq4,zq5]
    refine wpAnyH_take (i:=50) (v:=?_) rfl (by kernel_rfl) (by kernel_rfl) (by kernel_rfl) (fun _ _ _ h=>h) (Or.inl ⟨by rfl,?_⟩) hS ?_
    rotate_left
    · (intro w hSw;(try dsimp only at hSw);go_simp;(try with_reducible rfl))
    rotate_left
    simp only [Act.put,zq0,zq1,zq2,zq3,zq4,zq5]
    refine wpAnyH_take (i:=51) (v:=?_) rfl (by kernel_rfl) (by kernel_rfl) (by kernel_rfl) (fun _ _ _ h=>h) (Or.inl ⟨by rfl,?_⟩) hS ?_
    rotate_left
    · (intro w hSw;(try dsimp only at hSw);go_simp;(try with_reducible rfl))
    rotate_left
    simp only [Act.put,zq0,zq1,zq2,zq3,zq4,zq5]
    refine wpAnyH_take (i:=52) (v:=?_) rfl (by kernel_rfl) (by kernel_rfl) (by kernel_rfl) (fun _ _ _ h=>h) (Or.inr ⟨by rfl,?_⟩) hS ?_
    rotate_left
    · rfl
    rotate_left
    simp only [Act.put,zq0,zq1,zq2,zq3,zq4,zq5]
    refine wpAnyH_take (i:=53) (v:=?_) rfl (by kernel_rfl) (by kernel_rfl) (by kernel_rfl) (fun _ _ _ h=>h) (Or.inr ⟨by rfl,?_⟩) hS ?_
    rotate_left
    · rfl
    rotate_left
    simp only [Act.put,zq0,zq1,zq2,zq3,zq4,zq5]
    refine wpAnyH_take (i:=54) (v:=?_) rfl (by kernel_rfl) (by kernel_rfl) (by kernel_rfl) (fun _ _ _ h=>h) (Or.inr ⟨by rfl,?_⟩) hS ?_
    rotate_left
    · rfl
    rotate_left
    simp only [Act.put,zq0,zq1,zq2,zq3,zq4,zq5]
    refine wpAnyH_take (i:=55) (v:=?_) rfl (by kernel_rfl) (by kernel_rfl) (by kernel_rfl) (fun _ _ _ h=>h) (Or.inr ⟨by rfl,?_⟩) hS ?_
    rotate_left
    · rfl
    rotate_left
    simp only [Act.put,zq0,zq1,zq2,zq3,zq4,zq5]
    refine wpAnyH_take (i:=56) (v:=?_) rfl (by kernel_rfl) (by kernel_rfl) (by kernel_rfl) (fun _ _ _ h=>h) (Or.inr ⟨by rfl,?_⟩) hS ?_
    rotate_left
    · rfl
    rotate_left
    simp only [Act.put,zq0,zq1,zq2,zq3,zq4,zq5]
    refine wpAnyH_take (i:=57) (v:=?_) rfl (by kernel_rfl) (by kernel_rfl) (by kernel_rfl) (fun _ _ _ h=>h) (Or.inr ⟨by rfl,?_⟩) hS ?_
    rotate_left
    · rfl
    rotate_left
    simp only [Act.put,zq0,zq1,zq2,zq3,zq4,zq5]
    refine wpAnyH_take (i:=58) (v:=?_) rfl (by kernel_rfl) (by kernel_rfl) (by kernel_rfl) (fun _ _ _ h=>h) (Or.inr ⟨by rfl,?_⟩) hS ?_
    rotate_left
    · rfl
    rotate_left
    simp only [Act.put,zq0,zq1,zq2,zq3,zq4,zq5]
    refine wpAnyH_take (i:=59) (v:=?_) rfl (by kernel_rfl) (by kernel_rfl) (by kernel_rfl) (fun _ _ _ h=>h) (Or.inr ⟨by rfl,?_⟩) hS ?_
    rotate_left
    · rfl
    rotate_left
    simp only [Act.put,zq0,zq1,zq2,zq3,zq4,zq5]
    refine wpAnyH_take (i:=60) (v:=?_) rfl (by kernel_rfl) (by kernel_rfl) (by kernel_rfl) (fun _ _ _ h=>h) (Or.inr ⟨by rfl,?_⟩) hS ?_
    rotate_left
    · rfl
    rotate_left
    simp only [Act.put,zq0,zq1,zq2,zq3,zq4,zq5]
    refine wpAnyH_take (i:=61) (v:=?_) rfl (by kernel_rfl) (by kernel_rfl) (by kernel_rfl) (fun _ _ _ h=>h) (Or.inr ⟨by rfl,?_⟩) hS ?_
    rotate_left
    · rfl
    rotate_left
    simp only [Act.put,zq0,zq1,zq2,zq3,zq4,zq5]
    refine wpAnyH_take (i:=62) (v:=?_) rfl (by kernel_rfl) (by kernel_rfl) (by kernel_rfl) (fun _ _ _ h=>h) (Or.inr ⟨by rfl,?_⟩) hS ?_
    rotate_left
    · rfl
    rotate_left
    simp only [Act.put,zq0,zq1,zq2,zq3,zq4,zq5]
    refine wpAnyH_take (i:=63) (v:=?_) rfl (by kernel_rfl) (by kernel_rfl) (by kernel_rfl) (fun _ _ _ h=>h) (Or.inl ⟨by rfl,?_⟩) hS ?_
    rotate_left
    · (intro w hSw;(try dsimp only at hSw);go_simp;(try with_reducible rfl))
    rotate_left
    simp only [Act.put,zq0,zq1,zq2,zq3,zq4,zq5]
    refine wpAnyH_done (by kernel_rfl) ?_ _
    have HT:=Lib.hid hS.1
    clear hS
    go_wp2_with fail
    go_meet
    exact ⟨by rw [hb.out],HT.out⟩
  have E5:=Lib.hid e5
  refine wpAnyH_take (i:=49) (v:=?_) rfl (by kernel_rfl) (by kernel_rfl) (by kernel_rfl) (fun _ _ _ h=>h) (Or.inl ⟨by rfl,?_⟩) hS ?_
  rotate_left
  · (intro w hSw;(try dsimp only at hSw);go_simp;(try with_reducible rfl))
  rotate_left
  simp only [Act.put,zq0,zq1,zq2,zq3,zq4,zq5]
  refine wpAnyH_take (i:=50) (v:=?_) rfl (by kernel_rfl) (by kernel_rfl) (by kernel_rfl) (fun _ _ _ h=>h) (Or.inl ⟨by rfl,?_⟩) hS ?_
  rotate_left
  · (intro w hSw;(try dsimp only at hSw);go_simp;(try with_reducible rfl))
  rotate_left
  simp only [Act.put,zq0,zq1,zq2,zq3,zq4,zq5]
  refine wpAnyH_take (i:=51) (v:=?_) rfl (by kernel_rfl) (by kernel_rfl) (by kernel_rfl) (fun _ _ _ h=>h) (Or.inl ⟨by rfl,?_⟩) hS ?_
  rotate_left
  · (intro w hSw;(try dsimp only at hSw);go_simp;(try with_reducible rfl))
  rotate_left
  simp only [Act.put,zq0,zq1,zq2,zq3,zq4,zq5]
  refine wpAnyH_take (i:=52) (v:=?_) rfl (by kernel_rfl) (by kernel_rfl) (by kernel_rfl) (fun _ _ _ h=>h) (Or.inl ⟨by rfl,?_⟩) hS ?_
  rotate_left
  · (intro w hSw;(try dsimp only at hSw);go_simp;(try with_reducible rfl))
  rotate_left
  simp only [Act.put,zq0,zq1,zq2,zq3,zq4,zq5]
  refine wpAnyH_take (i:=53) (v:=?_) rfl (by kernel_rfl) (by kernel_rfl) (by kernel_rfl) (fun _ _ _ h=>h) (Or.inl ⟨by rfl,?_⟩) hS ?_
  rotate_left
  · (intro w hSw;(try dsimp only at hSw);go_simp;(try with_reducible rfl))
  rotate_left
  simp only [Act.put,zq0,zq1,zq2,zq3,zq4,zq5]
  refine wpAnyH_take (i:=54) (v:=?_) rfl (by kernel_rfl) (by kernel_rfl) (by kernel_rfl) (fun _ _ _ h=>h) (Or.inl ⟨by rfl,?_⟩) hS ?_
  rotate_left
  · (intro w hSw;(try dsimp only at hSw);go_simp;(try with_reducible rfl))
  rotate_left
  simp only [Act.put,zq0,zq1,zq2,zq3,zq4,zq5]
  refine wpAnyH_take (i:=55) (v:=?_) rfl (by kernel_rfl) (by kernel_rfl) (by kernel_rfl) (fun _ _ _ h=>h) (Or.inl ⟨by rfl,?_⟩) hS ?_
  rotate_left
  · (intro w hSw;(try dsimp only at hSw);go_simp;(try with_reducible rfl))
  rotate_left
  simp only [Act.put,zq0,zq1,zq2,zq3,zq4,zq5]
  refine wpAnyH_take (i:=56) (v:=?_) rfl (by kernel_rfl) (by kernel_rfl) (by kernel_rfl) (fun _ _ _ h=>h) (Or.inl ⟨by rfl,?_⟩) hS ?_
  rotate_left
  · (intro w hSw;(try dsimp only at hSw);go_simp;(try with_reducible rfl))
  rotate_left
  simp only [Act.put,zq0,zq1,zq2,zq3,zq4,zq5]
  refine wpAnyH_take (i:=57) (v:=?_) rfl (by kernel_rfl) (by kernel_rfl) (by kernel_rfl) (fun _ _ _ h=>h) (Or.inl ⟨by rfl,?_⟩) hS ?_
  rotate_left
  · (intro w hSw;(try dsimp only at hSw);go_simp;(try with_reducible rfl))
  rotate_left
  simp only [Act.put,zq0,zq1,zq2,zq3,zq4,zq5]
  refine wpAnyH_take (i:=58) (v:=?_) rfl (by kernel_rfl) (by kernel_rfl) (by kernel_rfl) (fun _ _ _ h=>h) (Or.inl ⟨by rfl,?_⟩) hS ?_
  rotate_left
  · (intro w hSw;(try dsimp only at hSw);go_simp;(try with_reducible rfl))
  rotate_left
  simp only [Act.put,zq0,zq1,zq2,zq3,zq4,zq5]
  refine wpAnyH_take (i:=59) (v:=?_) rfl (by kernel_rfl) (by kernel_rfl) (by kernel_rfl) (fun _ _ _ h=>h) (Or.inl ⟨by rfl,?_⟩) hS ?_
  rotate_left
  · (intro w hSw;(try dsimp only at hSw);go_simp;(try with_reducible rfl))
  rotate_left
  simp only [Act.put,zq0,zq1,zq2,zq3,zq4,zq5]
  refine wpAnyH_take (i:=60) (v:=?_) rfl (by kernel_rfl) (by kernel_rfl) (by kernel_rfl) (fun _ _ _ h=>h) (Or.inl ⟨by rfl,?_⟩) hS ?_
  rotate_left
  · (intro w hSw;(try dsimp only at hSw);go_simp;(try with_reducible rfl))
  rotate_left
  simp only [Act.put,zq0,zq1,zq2,zq3,zq4,zq5]
  refine wpAnyH_take (i:=61) (v:=?_) rfl (by kernel_rfl) (by kernel_rfl) (by kernel_rfl) (fun _ _ _ h=>h) (Or.inl ⟨by rfl,?_⟩) hS ?_
  rotate_left
  · (intro w hSw;(try dsimp only at hSw);go_simp;(try with_reducible rfl))
  rotate_left
  simp only [Act.put,zq0,zq1,zq2,zq3,zq4,zq5]
  clear e5
  rcases Bool.eq_false_or_eq_true (decide (l < gu)) with e6 | e6
  · have hb : Hid (bd = true):=by show _ = _;rw [HBD.out,E3.out,E4.out,E5.out,e6];rfl
    refine wpAnyH_take (i:=62) (v:=?_) rfl (by kernel_rfl) (by kernel_rfl) (by kernel_rfl) (fun _ _ _ h=>h) (Or.inl ⟨by rfl,?_⟩) hS ?_
    rotate_left
    · (intro w hSw;(try dsimp only at hSw);go_simp;(try with_reducible rfl))
    rotate_left
    simp only [Act.put,zq0,zq1,zq2,zq3,zq4,zq5]
    refine wpAnyH_take (i:=63) (v:=?_) rfl (by kernel_rfl) (by kernel_rfl) (by kernel_rfl) (fun _ _ _ h=>h) (Or.inl ⟨by rfl,?_⟩) hS ?_
    rotate_left
    · (intro w hSw;(try dsimp only at hSw);go_simp;(try with_reducible rfl))
    rotate_left
    simp only [Act.put,zq0,zq1,zq2,zq3,zq4,zq5]
    refine wpAnyH_done (by kernel_rfl) ?_ _
    have HT:=Lib.hid hS.1
    clear hS
    go_wp2_with fail
    go_meet
    exact ⟨by rw [hb.out],HT.out⟩
  · have hb : Hid (bd = false):=by show _ = _;rw [HBD.out,E3.out,E4.out,E5.out,e6];rfl
    refine wpAnyH_take (i:=62) (v:=?_) rfl (by kernel_rfl) (by kernel_rfl) (by kernel_rfl) (fun _ _ _ h=>h) (Or.inl ⟨by rfl,?_⟩) hS ?_
    rotate_left
    · (intro w hSw;(try dsimp only at hSw);go_simp;(try with_reducible rfl))
    rotate_left
    simp only [Act.put,zq0,zq1,zq2,zq3,zq4,zq5]
    refine wpAnyH_take (i:=63) (v:=?_) rfl (by kernel_rfl) (by kernel_rfl) (by kernel_rfl) (fun _ _ _ h=>h) (Or.inl ⟨by rfl,?_⟩) hS ?_
    rotate_left
    · (intro w hSw;(try dsimp only at hSw);go_simp;(try with_reducible rfl))
    rotate_left
    simp only [Act.put,zq0,zq1,zq2,zq3,zq4,zq5]
    refine wpAnyH_done (by kernel_rfl) ?_ _
    have HT:=Lib.hid hS.1
    clear hS
    go_wp2_with fail
    go_meet
    exact ⟨by rw [hb.out],HT.out⟩
 case rest=>
 obtain ⟨rfl,b3⟩:=hcut
 have B3:=B2.next b3
 have t3:=Ext.trans t2 b3
 have y3:=B3.cell
 clear y2 B2 HBA HBQ b3 t2
 cases bd with
 | true=>
   have HL0 : Hid (lb = false):=by
    show _ = _
    have h1:=HBD.out
    rw [HLB2.out]
    revert h1
    cases ba <;> cases bq <;> cases decide (gt < 0) <;> cases decide (l ≤ gt) <;> cases decide (l < (n : Int)) <;> cases decide (l < gu) <;> simp
   go_wp2
   go_ret
   exact ⟨by have h:=HL0.out;rw [h];try rfl,t3⟩
 | false=>
 have HLB3 : Hid (lb = (match lvF (c * r) (m + 1) gq n ls 0 0 true with
  | none=>false
  | some p=>(p.1 == gu) && (decide (n < gq) && (homesB ls && roomB m l gu ls)))):=by
  show _ = _
  have h1:=HBD.out
  rw [HLB2.out]
  revert h1
  cases ba <;> cases bq <;> cases decide (gt < 0) <;> cases decide (l ≤ gt) <;> cases decide (l < (n : Int)) <;> cases decide (l < gu) <;> simp
 have HN9 : Hid (n ≤ 255):=by
  have h1:=HBD.out
  have h2 : decide (l < (n : Int)) = false:=by
   revert h1
   cases ba <;> cases bq <;> cases decide (gt < 0) <;> cases decide (l ≤ gt) <;> cases decide (l < (n : Int)) <;> simp
  have:=of_decide_eq_false h2
  have:=HXB.out
  show n ≤ 255
  omega
 clear HLB2 HBD
 obtain ⟨st,hst⟩ : ∃ z : Int,z = c * r:=⟨_,rfl⟩
 obtain ⟨nd,hnd⟩ : ∃ z : Int,z = m + 1:=⟨_,rfl⟩
 have HND : Hid (nd ≤ 17):=by have:=HXB.out;show nd ≤ 17;omega
 rw [← hst,← hnd] at HLB3 ⊢
 have HSN:=Lib.hid (And.intro hst hnd)
 clear hst hnd
 obtain ⟨W,hW⟩ : ∃ z : World,z = wc:=⟨_,rfl⟩
 have HRW:=Lib.hid (HR.out.below t3)
 have HBW:=Lib.hid B3
 go_wp2
 clear y3
 go_loopw [7,8,97] (fun u s i wr=>∃ (j : Nat) (uu : Int) (ss : Bool),u = .int .i64 uu ∧ s = .bool ss ∧ i = .int .i64 j ∧ j ≤ n ∧ Hid (lvF st nd gq n (ls.take j) 0 0 true = some (uu,ss) ∧ 0 ≤ uu ∧ uu ≤ 20 * (j : Int)) ∧ Below wc.heap.size wc wr) (fun _ _ i _=>n - (intOf i).toNat)
 case atStart=>exact ⟨0,0,true,rfl,rfl,rfl,Nat.zero_le _,⟨rfl,by omega,by omega⟩,Below.refl _ _⟩
 case round=>
  obtain ⟨j,uu,ss,rfl,rfl,rfl,hj,HF,bj⟩:=hrel
  by_cases hlt : j < n
  · have hlf : j < ls.length:=by have:=HNL.out;omega
    obtain ⟨b,off,rfl,q0,q1,q2,q3,q4,q5,hi⟩:=lv_at (HRW.out.below bj) hlf
    have HST:=Lib.hid (show ls.take (j + 1) = ls.take j ++ [ls[j]] from List.take_succ_eq_append_getElem hlf)
    have HTL : Hid ((ls.take j).length = j):=by show _ = _;rw [List.length_take];omega
    have HALL : Hid (ls = ls.take (j + 1) ++ ls.drop (j + 1)):=(List.take_append_drop _ _).symm
    generalize ls[j] = x at *
    have HI:=Lib.hid hi
    have HUU:=Lib.hid HF.out.2
    have HSTP:=lvF_step st nd gq n (ls.take j) x 0 0 true
    rw [HF.out.1,HTL.out,Nat.zero_add] at HSTP
    have HS2 : Hid (lvF st nd gq n (ls.take j ++ [x]) 0 0 true = if lvBad st nd gq n j ss x = true then none else some (uu + lvN x,lvU x)):=HSTP
    obtain ⟨bv,hbv⟩ : ∃ z : Bool,z = lvBad st nd gq n j ss x:=⟨_,rfl⟩
    have HBV:=Lib.hid hbv
    obtain ⟨d,hd⟩ : ∃ d : Nat,d = n - j:=⟨_,rfl⟩
    obtain ⟨e,he⟩ : ∃ e : Int,e = IntKind.u32.wrap ((gq : Int) - (d : Int)):=⟨_,rfl⟩
    have HBVE : Hid (bv = (decide (lvS x < 0) || (decide (st ≤ lvS x) || (decide (lvN x < 2) || (decide (nd < lvN x) || (((lvQ x : Int) == 0) || (((lvQ x : Int) != e) || (lvU x && !ss)))))))):=by
     show _ = _
     rw [hbv,he,hd]
     rfl
    have hw1' : wrap64 ((n : Int) - (j : Int)) = (d : Int):=by rw [show (n : Int) - (j : Int) = (d : Int) by omega];exact IntWalk.wrap64_in _ (by have:=HN9.out;omega)
    have hw1 : IntKind.i64.wrap ((n : Int) - (j : Int)) = (d : Int):=by rw [← hw1',IntKind.wrap_i64];unfold wrap64;rfl
    have HW2 : Hid (IntKind.u32.wrap (d : Int) = (d : Int)):=by
     have:=HN9.out
     show IntKind.u32.wrap (d : Int) = (d : Int)
     rw [IntKind.wrap_u32]
     exact Int.emod_eq_of_lt (by omega) (by omega)
    have HWJ:=IntWalk.wrap64_in ((j : Int) + 1) (by have:=HN9.out;omega)
    have bA:=Ext.alloc bj (.cells #[.int .u32 (lvQ x : Int),.int .i64 (lvS x),.int .i64 (lvN x),.bool (lvP x),.bool (lvU x),.bool (lvH x)] 73)
    have G1:=BoxOf.new wr #[.int .u32 (lvQ x : Int),.int .i64 (lvS x),.int .i64 (lvN x),.bool (lvP x),.bool (lvU x),.bool (lvH x)] 73
    have HW1:=Lib.hid (And.intro hw1 (And.intro hw1' he))
    clear HSTP hbv hd hw1 hw1' he hlf hi bj HF
    go_upto_region 9 with fail
    obtain ⟨gl,hgl⟩ : ∃ z : Nat,z = wr.heap.size:=⟨_,rfl⟩
    rw [← hgl] at G1 ⊢
    clear hgl q0 q1 q2 q3 q4 q5
    generalize wr.alloc (.cells #[.int .u32 (lvQ x : Int),.int .i64 (lvS x),.int .i64 (lvN x),.bool (lvP x),.bool (lvU x),.bool (lvH x)] 73) = W1 at *
    have BR1:=HBW.out.next bA
    go_cut [154] (fun s154 wx=>s154 = .bool bv ∧ Below W1.heap.size W1 wx)
    case first=>
     as_aux_lemma=>
     obtain ⟨hw1,hw1',he0⟩:=HW1.out
     have he:=he0.symm
     have hw2 : IntKind.u32.wrap (d : Int) = (d : Int):=HW2.out
     clear he0
     clear HRM HHM HR HNL HNM HII HQQ HXB HRW HBW HLB3 HSN HND HST HTL HALL HI HS2 HBV HWJ bA t3 B3
     refine wp_region_held_drew (S:=fun w'=>Below W1.heap.size W1 w' ∧ (∀ o,w'.cell? ⟨gl,o,none⟩ = (#[.int .u32 (lvQ x : Int),.int .i64 (lvS x),.int .i64 (lvN x),.bool (lvP x),.bool (lvU x),.bool (lvH x)] : Array Value).toList[o]?) ∧ ∀ o,w'.cell? ⟨gR,o,none⟩ = (#[.int .u32 (ga : Int),.int .u32 (gq : Int),.int .i64 gt,.int .i64 gu,.slice (some ⟨b,off,none⟩) n lc,.int .u32 (id : Int),.int .i64 m,.int .i64 c,.int .i64 r,.int .i64 l,.int .i64 h] : Array Value).toList[o]?) (by kernel_rfl) ⟨Ext.drew (Below.refl _ _),G1.drew.cell,BR1.drew.cell⟩ (fun hS=>?_)
     clear G1 BR1
     refine wpAnyH_take (i:=0) (v:=?_) rfl (by kernel_rfl) (by kernel_rfl) (by kernel_rfl) (fun _ _ _ h=>h) (Or.inl ⟨by rfl,?_⟩) hS ?_
     rotate_left
     · (intro w hSw;(try dsimp only at hSw);go_simp;(try with_reducible rfl))
     rotate_left
     simp only [Act.put,zq0,zq1,zq2,zq3,zq4,zq5]
     refine wpAnyH_take (i:=1) (v:=?_) rfl (by kernel_rfl) (by kernel_rfl) (by kernel_rfl) (fun _ _ _ h=>h) (Or.inl ⟨by rfl,?_⟩) hS ?_
     rotate_left
     · (intro w hSw;(try dsimp only at hSw);go_simp;(try with_reducible rfl))
     rotate_left
     simp only [Act.put,zq0,zq1,zq2,zq3,zq4,zq5]
     rcases Bool.eq_false_or_eq_true (decide (lvS x < 0)) with e1 | e1
     · have hb : Hid (bv = true):=by show _ = _;rw [HBVE.out,e1];rfl
       refine wpAnyH_take (i:=2) (v:=?_) rfl (by kernel_rfl) (by kernel_rfl) (by kernel_rfl) (fun _ _ _ h=>h) (Or.inl ⟨by rfl,?_⟩) hS ?_
       rotate_left
       · (intro w hSw;(try dsimp only at hSw);go_simp;(try with_reducible rfl))
       rotate_left
       simp only [Act.put,zq0,zq1,zq2,zq3,zq4,zq5]
       refine wpAnyH_take (i:=3) (v:=?_) rfl (by kernel_rfl) (by kernel_rfl) (by kernel_rfl) (fun _ _ _ h=>h) (Or.inl ⟨by rfl,?_⟩) hS ?_
       rotate_left
       · (intro w hSw;(try dsimp only at hSw);go_simp;(try with_reducible rfl))
       rotate_left
       simp only [Act.put,zq0,zq1,zq2,zq3,zq4,zq5]
       refine wpAnyH_take (i:=4) (v:=?_) rfl (by kernel_rfl) (by kernel_rfl) (by kernel_rfl) (fun _ _ _ h=>h) (Or.inr ⟨by rfl,?_⟩) hS ?_
       rotate_left
       · rfl
       rotate_left
       simp only [Act.put,zq0,zq1,zq2,zq3,zq4,zq5]
       refine wpAnyH_take (i:=5) (v:=?_) rfl (by kernel_rfl) (by kernel_rfl) (by kernel_rfl) (fun _ _ _ h=>h) (Or.inr ⟨by rfl,?_⟩) hS ?_
       rotate_left
       · rfl
       rotate_left
       simp only [Act.put,zq0,zq1,zq2,zq3,zq4,zq5]
       refine wpAnyH_take (i:=6) (v:=?_) rfl (by kernel_rfl) (by kernel_rfl) (by kernel_rfl) (fun _ _ _ h=>h) (Or.inr ⟨by rfl,?_⟩) hS ?_
       rotate_left
       · rfl
       rotate_left
       simp only [Act.put,zq0,zq1,zq2,zq3,zq4,zq5]
       refine wpAnyH_take (i:=7) (v:=?_) rfl (by kernel_rfl) (by kernel_rfl) (by kernel_rfl) (fun _ _ _ h=>h) (Or.inr ⟨by rfl,?_⟩) hS ?_
       rotate_left
       · rfl
       rotate_left
       simp only [Act.put,zq0,zq1,zq2,zq3,zq4,zq5]
       refine wpAnyH_take (i:=8) (v:=?_) rfl (by kernel_rfl) (by kernel_rfl) (by kernel_rfl) (fun _ _ _ h=>h) (Or.inl ⟨by rfl,?_⟩) hS ?_
       rotate_left
       · (intro w hSw;(try dsimp only at hSw);go_simp;(try with_reducible rfl))
       rotate_left
       simp only [Act.put,zq0,zq1,zq2,zq3,zq4,zq5]
       refine wpAnyH_take (i:=9) (v:=?_) rfl (by kernel_rfl) (by kernel_rfl) (by kernel_rfl) (fun _ _ _ h=>h) (Or.inl ⟨by rfl,?_⟩) hS ?_
       rotate_left
       · (intro w hSw;(try dsimp only at hSw);go_simp;(try with_reducible rfl))
       rotate_left
       simp only [Act.put,zq0,zq1,zq2,zq3,zq4,zq5]
       refine wpAnyH_take (i:=10) (v:=?_) rfl (by kernel_rfl) (by kernel_rfl) (by kernel_rfl) (fun _ _ _ h=>h) (Or.inr ⟨by rfl,?_⟩) hS ?_
       rotate_left
       · rfl
       rotate_left
       simp only [Act.put,zq0,zq1,zq2,zq3,zq4,zq5]
       refine wpAnyH_take (i:=11) (v:=?_) rfl (by kernel_rfl) (by kernel_rfl) (by kernel_rfl) (fun _ _ _ h=>h) (Or.inr ⟨by rfl,?_⟩) hS ?_
       rotate_left
       · rfl
       rotate_left
       simp only [Act.put,zq0,zq1,zq2,zq3,zq4,zq5]
       refine wpAnyH_take (i:=12) (v:=?_) rfl (by kernel_rfl) (by kernel_rfl) (by kernel_rfl) (fun _ _ _ h=>h) (Or.inr ⟨by rfl,?_⟩) hS ?_
       rotate_left
       · rfl
       rotate_left
       simp only [Act.put,zq0,zq1,zq2,zq3,zq4,zq5]
       refine wpAnyH_take (i:=13) (v:=?_) rfl (by kernel_rfl) (by kernel_rfl) (by kernel_rfl) (fun _ _ _ h=>h) (Or.inl ⟨by rfl,?_⟩) hS ?_
       rotate_left
       · (intro w hSw;(try dsimp only at hSw);go_simp;(try with_reducible rfl))
       rotate_left
       simp only [Act.put,zq0,zq1,zq2,zq3,zq4,zq5]
       refine wpAnyH_take (i:=14) (v:=?_) rfl (by kernel_rfl) (by kernel_rfl) (by kernel_rfl) (fun _ _ _ h=>h) (Or.inl ⟨by rfl,?_⟩) hS ?_
       rotate_left
       · (intro w hSw;(try dsimp only at hSw);go_simp;(try with_reducible rfl))
       rotate_left
       simp only [Act.put,zq0,zq1,zq2,zq3,zq4,zq5]
       refine wpAnyH_take (i:=15) (v:=?_) rfl (by kernel_rfl) (by kernel_rfl) (by kernel_rfl) (fun _ _ _ h=>h) (Or.inr ⟨by rfl,?_⟩) hS ?_
       rotate_left
       · rfl
       rotate_left
       simp only [Act.put,zq0,zq1,zq2,zq3,zq4,zq5]
       refine wpAnyH_take (i:=16) (v:=?_) rfl (by kernel_rfl) (by kernel_rfl) (by kernel_rfl) (fun _ _ _ h=>h) (Or.inr ⟨by rfl,?_⟩) hS ?_
       rotate_left
       · rfl
       rotate_left
       simp only [Act.put,zq0,zq1,zq2,zq3,zq4,zq5]
       refine wpAnyH_take (i:=17) (v:=?_) rfl (by kernel_rfl) (by kernel_rfl) (by kernel_rfl) (fun _ _ _ h=>h) (Or.inr ⟨by rfl,?_⟩) hS ?_
       rotate_left
       · rfl
       rotate_left
       simp only [Act.put,zq0,zq1,zq2,zq3,zq4,zq5]
       refine wpAnyH_take (i:=18) (v:=?_) rfl (by kernel_rfl) (by kernel_rfl) (by kernel_rfl) (fun _ _ _ h=>h) (Or.inr ⟨by rfl,?_⟩) hS ?_
       rotate_left
       · rfl
       rotate_left
       simp only [Act.put,zq0,zq1,zq2,zq3,zq4,zq5]
       refine wpAnyH_take (i:=19) (v:=?_) rfl (by kernel_rfl) (by kernel_rfl) (by kernel_rfl) (fun _ _ _ h=>h) (Or.inl ⟨by rfl,?_⟩) hS ?_
       rotate_left
       · (intro w hSw;(try dsimp only at hSw);go_simp;(try with_reducible rfl))
       rotate_left
       simp only [Act.put,zq0,zq1,zq2,zq3,zq4,zq5]
       refine wpAnyH_take (i:=20) (v:=?_) rfl (by kernel_rfl) (by kernel_rfl) (by kernel_rfl) (fun _ _ _ h=>h) (Or.inl ⟨by rfl,?_⟩) hS ?_
       rotate_left
       · (intro w hSw;(try dsimp only at hSw);go_simp;(try with_reducible rfl))
       rotate_left
       simp only [Act.put,zq0,zq1,zq2,zq3,zq4,zq5]
       refine wpAnyH_take (i:=21) (v:=?_) rfl (by kernel_rfl) (by kernel_rfl) (by kernel_rfl) (fun _ _ _ h=>h) (Or.inr ⟨by rfl,?_⟩) hS ?_
       rotate_left
       · rfl
       rotate_left
       simp only [Act.put,zq0,zq1,zq2,zq3,zq4,zq5]
       refine wpAnyH_take (i:=22) (v:=?_) rfl (by kernel_rfl) (by kernel_rfl) (by kernel_rfl) (fun _ _ _ h=>h) (Or.inr ⟨by rfl,?_⟩) hS ?_
       rotate_left
       · rfl
       rotate_left
       simp only [Act.put,zq0,zq1,zq2,zq3,zq4,zq5]
       refine wpAnyH_take (i:=23) (v:=?_) rfl (by kernel_rfl) (by kernel_rfl) (by kernel_rfl) (fun _ _ _ h=>h) (Or.inr ⟨by rfl,?_⟩) hS ?_
       rotate_left
       · rfl
       rotate_left
       simp only [Act.put,zq0,zq1,zq2,zq3,zq4,zq5]
       refine wpAnyH_take (i:=24) (v:=?_) rfl (by kernel_rfl) (by kernel_rfl) (by kernel_rfl) (fun _ _ _ h=>h) (Or.inl ⟨by rfl,?_⟩) hS ?_
       rotate_left
       · (intro w hSw;(try dsimp only at hSw);go_simp;(try with_reducible rfl))
       rotate_left
       simp only [Act.put,zq0,zq1,zq2,zq3,zq4,zq5]
       refine wpAnyH_take (i:=25) (v:=?_) rfl (by kernel_rfl) (by kernel_rfl) (by kernel_rfl) (fun _ _ _ h=>h) (Or.inl ⟨by rfl,?_⟩) hS ?_
       rotate_left
       · (intro w hSw;(try dsimp only at hSw);go_simp;(try with_reducible rfl))
       rotate_left
       simp only [Act.put,zq0,zq1,zq2,zq3,zq4,zq5]
       refine wpAnyH_take (i:=26) (v:=?_) rfl (by kernel_rfl) (by kernel_rfl) (by kernel_rfl) (fun _ _ _ h=>h) (Or.inr ⟨by rfl,?_⟩) hS ?_
       rotate_left
       · rfl
       rotate_left
       simp only [Act.put,zq0,zq1,zq2,zq3,zq4,zq5]
       refine wpAnyH_take (i:=27) (v:=?_) rfl (by kernel_rfl) (by kernel_rfl) (by kernel_rfl) (fun _ _ _ h=>h) (Or.inr ⟨by rfl,?_⟩) hS ?_
       rotate_left
       · rfl
       rotate_left
       simp only [Act.put,zq0,zq1,zq2,zq3,zq4,zq5]
       refine wpAnyH_take (i:=28) (v:=?_) rfl (by kernel_rfl) (by kernel_rfl) (by kernel_rfl) (fun _ _ _ h=>h) (Or.inr ⟨by rfl,?_⟩) hS ?_
       rotate_left
       · rfl
       rotate_left
       simp only [Act.put,zq0,zq1,zq2,zq3,zq4,zq5]
       refine wpAnyH_take (i:=29) (v:=?_) rfl (by kernel_rfl) (by kernel_rfl) (by kernel_rfl) (fun _ _ _ h=>h) (Or.inr ⟨by rfl,?_⟩) hS ?_
       rotate_left
       · rfl
       rotate_left
       simp only [Act.put,zq0,zq1,zq2,zq3,zq4,zq5]
       refine wpAnyH_take (i:=30) (v:=?_) rfl (by kernel_rfl) (by kernel_rfl) (by kernel_rfl) (fun _ _ _ h=>h) (Or.inr ⟨by rfl,?_⟩) hS ?_
       rotate_left
       · rfl
       rotate_left
       simp only [Act.put,zq0,zq1,zq2,zq3,zq4,zq5]
       refine wpAnyH_take (i:=31) (v:=?_) rfl (by kernel_rfl) (by kernel_rfl) (by kernel_rfl) (fun _ _ _ h=>h) (Or.inr ⟨by rfl,?_⟩) hS ?_
       rotate_left
       · rfl
       rotate_left
       simp only [Act.put,zq0,zq1,zq2,zq3,zq4,zq5]
       refine wpAnyH_take (i:=32) (v:=?_) rfl (by kernel_rfl) (by kernel_rfl) (by kernel_rfl) (fun _ _ _ h=>h) (Or.inr ⟨by rfl,?_⟩) hS ?_
       rotate_left
       · rfl
       rotate_left
       simp only [Act.put,zq0,zq1,zq2,zq3,zq4,zq5]
       refine wpAnyH_take (i:=33) (v:=?_) rfl (by kernel_rfl) (by kernel_rfl) (by kernel_rfl) (fun _ _ _ h=>h) (Or.inr ⟨by rfl,?_⟩) hS ?_
       rotate_left
       · rfl
       rotate_left
       simp only [Act.put,zq0,zq1,zq2,zq3,zq4,zq5]
       refine wpAnyH_take (i:=34) (v:=?_) rfl (by kernel_rfl) (by kernel_rfl) (by kernel_rfl) (fun _ _ _ h=>h) (Or.inr ⟨by rfl,?_⟩) hS ?_
       rotate_left
       · rfl
       rotate_left
       simp only [Act.put,zq0,zq1,zq2,zq3,zq4,zq5]
       refine wpAnyH_take (i:=35) (v:=?_) rfl (by kernel_rfl) (by kernel_rfl) (by kernel_rfl) (fun _ _ _ h=>h) (Or.inr ⟨by rfl,?_⟩) hS ?_
       rotate_left
       · rfl
       rotate_left
       simp only [Act.put,zq0,zq1,zq2,zq3,zq4,zq5]
       refine wpAnyH_take (i:=36) (v:=?_) rfl (by kernel_rfl) (by kernel_rfl) (by kernel_rfl) (fun _ _ _ h=>h) (Or.inr ⟨by rfl,?_⟩) hS ?_
       rotate_left
       · rfl
       rotate_left
       simp only [Act.put,zq0,zq1,zq2,zq3,zq4,zq5]
       refine wpAnyH_take (i:=37) (v:=?_) rfl (by kernel_rfl) (by kernel_rfl) (by kernel_rfl) (fun _ _ _ h=>h) (Or.inr ⟨by rfl,?_⟩) hS ?_
       rotate_left
       · rfl
       rotate_left
       simp only [Act.put,zq0,zq1,zq2,zq3,zq4,zq5]
       refine wpAnyH_take (i:=38) (v:=?_) rfl (by kernel_rfl) (by kernel_rfl) (by kernel_rfl) (fun _ _ _ h=>h) (Or.inr ⟨by rfl,?_⟩) hS ?_
       rotate_left
       · rfl
       rotate_left
       simp only [Act.put,zq0,zq1,zq2,zq3,zq4,zq5]
       refine wpAnyH_take (i:=39) (v:=?_) rfl (by kernel_rfl) (by kernel_rfl) (by kernel_rfl) (fun _ _ _ h=>h) (Or.inr ⟨by rfl,?_⟩) hS ?_
       rotate_left
       · rfl
       rotate_left
       simp only [Act.put,zq0,zq1,zq2,zq3,zq4,zq5]
       refine wpAnyH_take (i:=40) (v:=?_) rfl (by kernel_rfl) (by kernel_rfl) (by kernel_rfl) (fun _ _ _ h=>h) (Or.inr ⟨by rfl,?_⟩) hS ?_
       rotate_left
       · rfl
       rotate_left
       simp only [Act.put,zq0,zq1,zq2,zq3,zq4,zq5]
       refine wpAnyH_take (i:=41) (v:=?_) rfl (by kernel_rfl) (by kernel_rfl) (by kernel_rfl) (fun _ _ _ h=>h) (Or.inr ⟨by rfl,?_⟩) hS ?_
       rotate_left
       · rfl
       rotate_left
       simp only [Act.put,zq0,zq1,zq2,zq3,zq4,zq5]
       refine wpAnyH_take (i:=42) (v:=?_) rfl (by kernel_rfl) (by kernel_rfl) (by kernel_rfl) (fun _ _ _ h=>h) (Or.inr ⟨by rfl,?_⟩) hS ?_
       rotate_left
       · rfl
       rotate_left
       simp only [Act.put,zq0,zq1,zq2,zq3,zq4,zq5]
       refine wpAnyH_take (i:=43) (v:=?_) rfl (by kernel_rfl) (by kernel_rfl) (by kernel_rfl) (fun _ _ _ h=>h) (Or.inr ⟨by rfl,?_⟩) hS ?_
       rotate_left
       · rfl
       rotate_left
       simp only [Act.put,zq0,zq1,zq2,zq3,zq4,zq5]
       refine wpAnyH_take (i:=44) (v:=?_) rfl (by kernel_rfl) (by kernel_rfl) (by kernel_rfl) (fun _ _ _ h=>h) (Or.inl ⟨by rfl,?_⟩) hS ?_
       rotate_left
       · (intro w hSw;(try dsimp only at hSw);go_simp;(try with_reducible rfl))
       rotate_left
       simp only [Act.put,zq0,zq1,zq2,zq3,zq4,zq5]
       refine wpAnyH_take (i:=45) (v:=?_) rfl (by kernel_rfl) (by kernel_rfl) (by kernel_rfl) (fun _ _ _ h=>h) (Or.inl ⟨by rfl,?_⟩) hS ?_
       rotate_left
       · (intro w hSw;(try dsimp only at hSw);go_simp;(try with_reducible rfl))
       rotate_left
       simp only [Act.put,zq0,zq1,zq2,zq3,zq4,zq5]
       refine wpAnyH_take (i:=46) (v:=?_) rfl (by kernel_rfl) (by kernel_rfl) (by kernel_rfl) (fun _ _ _ h=>h) (Or.inr ⟨by rfl,?_⟩) hS ?_
       rotate_left
       · rfl
       rotate_left
       simp only [Act.put,zq0,zq1,zq2,zq3,zq4,zq5]
       refine wpAnyH_take (i:=47) (v:=?_) rfl (by kernel_rfl) (by kernel_rfl) (by kernel_rfl) (fun _ _ _ h=>h) (Or.inr ⟨by rfl,?_⟩) hS ?_
       rotate_left
       · rfl
       rotate_left
       simp only [Act.put,zq0,zq1,zq2,zq3,zq4,zq5]
       refine wpAnyH_take (i:=48) (v:=?_) rfl (by kernel_rfl) (by kernel_rfl) (by kernel_rfl) (fun _ _ _ h=>h) (Or.inr ⟨by rfl,?_⟩) hS ?_
       rotate_left
       · rfl
       rotate_left
       simp only [Act.put,zq0,zq1,zq2,zq3,zq4,zq5]
       refine wpAnyH_take (i:=49) (v:=?_) rfl (by kernel_rfl) (by kernel_rfl) (by kernel_rfl) (fun _ _ _ h=>h) (Or.inr ⟨by rfl,?_⟩) hS ?_
       rotate_left
       · rfl
       rotate_left
       simp only [Act.put,zq0,zq1,zq2,zq3,zq4,zq5]
       refine wpAnyH_take (i:=50) (v:=?_) rfl (by kernel_rfl) (by kernel_rfl) (by kernel_rfl) (fun _ _ _ h=>h) (Or.inr ⟨by rfl,?_⟩) hS ?_
       rotate_left
       · rfl
       rotate_left
       simp only [Act.put,zq0,zq1,zq2,zq3,zq4,zq5]
       refine wpAnyH_take (i:=51) (v:=?_) rfl (by kernel_rfl) (by kernel_rfl) (by kernel_rfl) (fun _ _ _ h=>h) (Or.inr ⟨by rfl,?_⟩) hS ?_
       rotate_left
       · rfl
       rotate_left
       simp only [Act.put,zq0,zq1,zq2,zq3,zq4,zq5]
       refine wpAnyH_take (i:=52) (v:=?_) rfl (by kernel_rfl) (by kernel_rfl) (by kernel_rfl) (fun _ _ _ h=>h) (Or.inl ⟨by rfl,?_⟩) hS ?_
       rotate_left
       · (intro w hSw;(try dsimp only at hSw);go_simp;(try with_reducible rfl))
       rotate_left
       simp only [Act.put,zq0,zq1,zq2,zq3,zq4,zq5]
       refine wpAnyH_done (by kernel_rfl) ?_ _
       have HT:=Lib.hid hS.1
       clear hS
       go_wp2_with fail
       go_meet
       exact ⟨by rw [hb.out],HT.out⟩
     have E1:=Lib.hid e1
     refine wpAnyH_take (i:=2) (v:=?_) rfl (by kernel_rfl) (by kernel_rfl) (by kernel_rfl) (fun _ _ _ h=>h) (Or.inl ⟨by rfl,?_⟩) hS ?_
     rotate_left
     · (intro w hSw;(try dsimp only at hSw);go_simp;(try with_reducible rfl))
     rotate_left
     simp only [Act.put,zq0,zq1,zq2,zq3,zq4,zq5]
     refine wpAnyH_take (i:=3) (v:=?_) rfl (by kernel_rfl) (by kernel_rfl) (by kernel_rfl) (fun _ _ _ h=>h) (Or.inl ⟨by rfl,?_⟩) hS ?_
     rotate_left
     · (intro w hSw;(try dsimp only at hSw);go_simp;(try with_reducible rfl))
     rotate_left
     simp only [Act.put,zq0,zq1,zq2,zq3,zq4,zq5]
     refine wpAnyH_take (i:=4) (v:=?_) rfl (by kernel_rfl) (by kernel_rfl) (by kernel_rfl) (fun _ _ _ h=>h) (Or.inl ⟨by rfl,?_⟩) hS ?_
     rotate_left
     · (intro w hSw;(try dsimp only at hSw);go_simp;(try with_reducible rfl))
     rotate_left
     simp only [Act.put,zq0,zq1,zq2,zq3,zq4,zq5]
     refine wpAnyH_take (i:=5) (v:=?_) rfl (by kernel_rfl) (by kernel_rfl) (by kernel_rfl) (fun _ _ _ h=>h) (Or.inl ⟨by rfl,?_⟩) hS ?_
     rotate_left
     · (intro w hSw;(try dsimp only at hSw);go_simp;(try with_reducible rfl))
     rotate_left
     simp only [Act.put,zq0,zq1,zq2,zq3,zq4,zq5]
     refine wpAnyH_take (i:=6) (v:=?_) rfl (by kernel_rfl) (by kernel_rfl) (by kernel_rfl) (fun _ _ _ h=>h) (Or.inl ⟨by rfl,?_⟩) hS ?_
     rotate_left
     · (intro w hSw;(try dsimp only at hSw);go_simp;(try with_reducible rfl))
     rotate_left
     simp only [Act.put,zq0,zq1,zq2,zq3,zq4,zq5]
     clear e1
     rcases Bool.eq_false_or_eq_true (decide (st ≤ lvS x)) with e1 | e1
     · have hb : Hid (bv = true):=by show _ = _;rw [HBVE.out,E1.out,e1];rfl
       refine wpAnyH_take (i:=7) (v:=?_) rfl (by kernel_rfl) (by kernel_rfl) (by kernel_rfl) (fun _ _ _ h=>h) (Or.inl ⟨by rfl,?_⟩) hS ?_
       rotate_left
       · (intro w hSw;(try dsimp only at hSw);go_simp;(try with_reducible rfl))
       rotate_left
       simp only [Act.put,zq0,zq1,zq2,zq3,zq4,zq5]
       refine wpAnyH_take (i:=8) (v:=?_) rfl (by kernel_rfl) (by kernel_rfl) (by kernel_rfl) (fun _ _ _ h=>h) (Or.inl ⟨by rfl,?_⟩) hS ?_
       rotate_left
       · (intro w hSw;(try dsimp only at hSw);go_simp;(try with_reducible rfl))
       rotate_left
       simp only [Act.put,zq0,zq1,zq2,zq3,zq4,zq5]
       refine wpAnyH_take (i:=9) (v:=?_) rfl (by kernel_rfl) (by kernel_rfl) (by kernel_rfl) (fun _ _ _ h=>h) (Or.inl ⟨by rfl,?_⟩) hS ?_
       rotate_left
       · (intro w hSw;(try dsimp only at hSw);go_simp;(try with_reducible rfl))
       rotate_left
       simp only [Act.put,zq0,zq1,zq2,zq3,zq4,zq5]
       refine wpAnyH_take (i:=10) (v:=?_) rfl (by kernel_rfl) (by kernel_rfl) (by kernel_rfl) (fun _ _ _ h=>h) (Or.inr ⟨by rfl,?_⟩) hS ?_
       rotate_left
       · rfl
       rotate_left
       simp only [Act.put,zq0,zq1,zq2,zq3,zq4,zq5]
       refine wpAnyH_take (i:=11) (v:=?_) rfl (by kernel_rfl) (by kernel_rfl) (by kernel_rfl) (fun _ _ _ h=>h) (Or.inr ⟨by rfl,?_⟩) hS ?_
       rotate_left
       · rfl
       rotate_left
       simp only [Act.put,zq0,zq1,zq2,zq3,zq4,zq5]
       refine wpAnyH_take (i:=12) (v:=?_) rfl (by kernel_rfl) (by kernel_rfl) (by kernel_rfl) (fun _ _ _ h=>h) (Or.inr ⟨by rfl,?_⟩) hS ?_
       rotate_left
       · rfl
       rotate_left
       simp only [Act.put,zq0,zq1,zq2,zq3,zq4,zq5]
       refine wpAnyH_take (i:=13) (v:=?_) rfl (by kernel_rfl) (by kernel_rfl) (by kernel_rfl) (fun _ _ _ h=>h) (Or.inl ⟨by rfl,?_⟩) hS ?_
       rotate_left
       · (intro w hSw;(try dsimp only at hSw);go_simp;(try with_reducible rfl))
       rotate_left
       simp only [Act.put,zq0,zq1,zq2,zq3,zq4,zq5]
       refine wpAnyH_take (i:=14) (v:=?_) rfl (by kernel_rfl) (by kernel_rfl) (by kernel_rfl) (fun _ _ _ h=>h) (Or.inl ⟨by rfl,?_⟩) hS ?_
       rotate_left
       · (intro w hSw;(try dsimp only at hSw);go_simp;(try with_reducible rfl))
       rotate_left
       simp only [Act.put,zq0,zq1,zq2,zq3,zq4,zq5]
       refine wpAnyH_take (i:=15) (v:=?_) rfl (by kernel_rfl) (by kernel_rfl) (by kernel_rfl) (fun _ _ _ h=>h) (Or.inr ⟨by rfl,?_⟩) hS ?_
       rotate_left
       · rfl
       rotate_left
       simp only [Act.put,zq0,zq1,zq2,zq3,zq4,zq5]
       refine wpAnyH_take (i:=16) (v:=?_) rfl (by kernel_rfl) (by kernel_rfl) (by kernel_rfl) (fun _ _ _ h=>h) (Or.inr ⟨by rfl,?_⟩) hS ?_
       rotate_left
       · rfl
       rotate_left
       simp only [Act.put,zq0,zq1,zq2,zq3,zq4,zq5]
       refine wpAnyH_take (i:=17) (v:=?_) rfl (by kernel_rfl) (by kernel_rfl) (by kernel_rfl) (fun _ _ _ h=>h) (Or.inr ⟨by rfl,?_⟩) hS ?_
       rotate_left
       · rfl
       rotate_left
       simp only [Act.put,zq0,zq1,zq2,zq3,zq4,zq5]
       refine wpAnyH_take (i:=18) (v:=?_) rfl (by kernel_rfl) (by kernel_rfl) (by kernel_rfl) (fun _ _ _ h=>h) (Or.inr ⟨by rfl,?_⟩) hS ?_
       rotate_left
       · rfl
       rotate_left
       simp only [Act.put,zq0,zq1,zq2,zq3,zq4,zq5]
       refine wpAnyH_take (i:=19) (v:=?_) rfl (by kernel_rfl) (by kernel_rfl) (by kernel_rfl) (fun _ _ _ h=>h) (Or.inl ⟨by rfl,?_⟩) hS ?_
       rotate_left
       · (intro w hSw;(try dsimp only at hSw);go_simp;(try with_reducible rfl))
       rotate_left
       simp only [Act.put,zq0,zq1,zq2,zq3,zq4,zq5]
       refine wpAnyH_take (i:=20) (v:=?_) rfl (by kernel_rfl) (by kernel_rfl) (by kernel_rfl) (fun _ _ _ h=>h) (Or.inl ⟨by rfl,?_⟩) hS ?_
       rotate_left
       · (intro w hSw;(try dsimp only at hSw);go_simp;(try with_reducible rfl))
       rotate_left
       simp only [Act.put,zq0,zq1,zq2,zq3,zq4,zq5]
       refine wpAnyH_take (i:=21) (v:=?_) rfl (by kernel_rfl) (by kernel_rfl) (by kernel_rfl) (fun _ _ _ h=>h) (Or.inr ⟨by rfl,?_⟩) hS ?_
       rotate_left
       · rfl
       rotate_left
       simp only [Act.put,zq0,zq1,zq2,zq3,zq4,zq5]
       refine wpAnyH_take (i:=22) (v:=?_) rfl (by kernel_rfl) (by kernel_rfl) (by kernel_rfl) (fun _ _ _ h=>h) (Or.inr ⟨by rfl,?_⟩) hS ?_
       rotate_left
       · rfl
       rotate_left
       simp only [Act.put,zq0,zq1,zq2,zq3,zq4,zq5]
       refine wpAnyH_take (i:=23) (v:=?_) rfl (by kernel_rfl) (by kernel_rfl) (by kernel_rfl) (fun _ _ _ h=>h) (Or.inr ⟨by rfl,?_⟩) hS ?_
       rotate_left
       · rfl
       rotate_left
       simp only [Act.put,zq0,zq1,zq2,zq3,zq4,zq5]
       refine wpAnyH_take (i:=24) (v:=?_) rfl (by kernel_rfl) (by kernel_rfl) (by kernel_rfl) (fun _ _ _ h=>h) (Or.inl ⟨by rfl,?_⟩) hS ?_
       rotate_left
       · (intro w hSw;(try dsimp only at hSw);go_simp;(try with_reducible rfl))
       rotate_left
       simp only [Act.put,zq0,zq1,zq2,zq3,zq4,zq5]
       refine wpAnyH_take (i:=25) (v:=?_) rfl (by kernel_rfl) (by kernel_rfl) (by kernel_rfl) (fun _ _ _ h=>h) (Or.inl ⟨by rfl,?_⟩) hS ?_
       rotate_left
       · (intro w hSw;(try dsimp only at hSw);go_simp;(try with_reducible rfl))
       rotate_left
       simp only [Act.put,zq0,zq1,zq2,zq3,zq4,zq5]
       refine wpAnyH_take (i:=26) (v:=?_) rfl (by kernel_rfl) (by kernel_rfl) (by kernel_rfl) (fun _ _ _ h=>h) (Or.inr ⟨by rfl,?_⟩) hS ?_
       rotate_left
       · rfl
       rotate_left
       simp only [Act.put,zq0,zq1,zq2,zq3,zq4,zq5]
       refine wpAnyH_take (i:=27) (v:=?_) rfl (by kernel_rfl) (by kernel_rfl) (by kernel_rfl) (fun _ _ _ h=>h) (Or.inr ⟨by rfl,?_⟩) hS ?_
       rotate_left
       · rfl
       rotate_left
       simp only [Act.put,zq0,zq1,zq2,zq3,zq4,zq5]
       refine wpAnyH_take (i:=28) (v:=?_) rfl (by kernel_rfl) (by kernel_rfl) (by kernel_rfl) (fun _ _ _ h=>h) (Or.inr ⟨by rfl,?_⟩) hS ?_
       rotate_left
       · rfl
       rotate_left
       simp only [Act.put,zq0,zq1,zq2,zq3,zq4,zq5]
       refine wpAnyH_take (i:=29) (v:=?_) rfl (by kernel_rfl) (by kernel_rfl) (by kernel_rfl) (fun _ _ _ h=>h) (Or.inr ⟨by rfl,?_⟩) hS ?_
       rotate_left
       · rfl
       rotate_left
       simp only [Act.put,zq0,zq1,zq2,zq3,zq4,zq5]
       refine wpAnyH_take (i:=30) (v:=?_) rfl (by kernel_rfl) (by kernel_rfl) (by kernel_rfl) (fun _ _ _ h=>h) (Or.inr ⟨by rfl,?_⟩) hS ?_
       rotate_left
       · rfl
       rotate_left
       simp only [Act.put,zq0,zq1,zq2,zq3,zq4,zq5]
       refine wpAnyH_take (i:=31) (v:=?_) rfl (by kernel_rfl) (by kernel_rfl) (by kernel_rfl) (fun _ _ _ h=>h) (Or.inr ⟨by rfl,?_⟩) hS ?_
       rotate_left
       · rfl
       rotate_left
       simp only [Act.put,zq0,zq1,zq2,zq3,zq4,zq5]
       refine wpAnyH_take (i:=32) (v:=?_) rfl (by kernel_rfl) (by kernel_rfl) (by kernel_rfl) (fun _ _ _ h=>h) (Or.inr ⟨by rfl,?_⟩) hS ?_
       rotate_left
       · rfl
       rotate_left
       simp only [Act.put,zq0,zq1,zq2,zq3,zq4,zq5]
       refine wpAnyH_take (i:=33) (v:=?_) rfl (by kernel_rfl) (by kernel_rfl) (by kernel_rfl) (fun _ _ _ h=>h) (Or.inr ⟨by rfl,?_⟩) hS ?_
       rotate_left
       · rfl
       rotate_left
       simp only [Act.put,zq0,zq1,zq2,zq3,zq4,zq5]
       refine wpAnyH_take (i:=34) (v:=?_) rfl (by kernel_rfl) (by kernel_rfl) (by kernel_rfl) (fun _ _ _ h=>h) (Or.inr ⟨by rfl,?_⟩) hS ?_
       rotate_left
       · rfl
       rotate_left
       simp only [Act.put,zq0,zq1,zq2,zq3,zq4,zq5]
       refine wpAnyH_take (i:=35) (v:=?_) rfl (by kernel_rfl) (by kernel_rfl) (by kernel_rfl) (fun _ _ _ h=>h) (Or.inr ⟨by rfl,?_⟩) hS ?_
       rotate_left
       · rfl
       rotate_left
       simp only [Act.put,zq0,zq1,zq2,zq3,zq4,zq5]
       refine wpAnyH_take (i:=36) (v:=?_) rfl (by kernel_rfl) (by kernel_rfl) (by kernel_rfl) (fun _ _ _ h=>h) (Or.inr ⟨by rfl,?_⟩) hS ?_
       rotate_left
       · rfl
       rotate_left
       simp only [Act.put,zq0,zq1,zq2,zq3,zq4,zq5]
       refine wpAnyH_take (i:=37) (v:=?_) rfl (by kernel_rfl) (by kernel_rfl) (by kernel_rfl) (fun _ _ _ h=>h) (Or.inr ⟨by rfl,?_⟩) hS ?_
       rotate_left
       · rfl
       rotate_left
       simp only [Act.put,zq0,zq1,zq2,zq3,zq4,zq5]
       refine wpAnyH_take (i:=38) (v:=?_) rfl (by kernel_rfl) (by kernel_rfl) (by kernel_rfl) (fun _ _ _ h=>h) (Or.inr ⟨by rfl,?_⟩) hS ?_
       rotate_left
       · rfl
       rotate_left
       simp only [Act.put,zq0,zq1,zq2,zq3,zq4,zq5]
       refine wpAnyH_take (i:=39) (v:=?_) rfl (by kernel_rfl) (by kernel_rfl) (by kernel_rfl) (fun _ _ _ h=>h) (Or.inr ⟨by rfl,?_⟩) hS ?_
       rotate_left
       · rfl
       rotate_left
       simp only [Act.put,zq0,zq1,zq2,zq3,zq4,zq5]
       refine wpAnyH_take (i:=40) (v:=?_) rfl (by kernel_rfl) (by kernel_rfl) (by kernel_rfl) (fun _ _ _ h=>h) (Or.inr ⟨by rfl,?_⟩) hS ?_
       rotate_left
       · rfl
       rotate_left
       simp only [Act.put,zq0,zq1,zq2,zq3,zq4,zq5]
       refine wpAnyH_take (i:=41) (v:=?_) rfl (by kernel_rfl) (by kernel_rfl) (by kernel_rfl) (fun _ _ _ h=>h) (Or.inr ⟨by rfl,?_⟩) hS ?_
       rotate_left
       · rfl
       rotate_left
       simp only [Act.put,zq0,zq1,zq2,zq3,zq4,zq5]
       refine wpAnyH_take (i:=42) (v:=?_) rfl (by kernel_rfl) (by kernel_rfl) (by kernel_rfl) (fun _ _ _ h=>h) (Or.inr ⟨by rfl,?_⟩) hS ?_
       rotate_left
       · rfl
       rotate_left
       simp only [Act.put,zq0,zq1,zq2,zq3,zq4,zq5]
       refine wpAnyH_take (i:=43) (v:=?_) rfl (by kernel_rfl) (by kernel_rfl) (by kernel_rfl) (fun _ _ _ h=>h) (Or.inr ⟨by rfl,?_⟩) hS ?_
       rotate_left
       · rfl
       rotate_left
       simp only [Act.put,zq0,zq1,zq2,zq3,zq4,zq5]
       refine wpAnyH_take (i:=44) (v:=?_) rfl (by kernel_rfl) (by kernel_rfl) (by kernel_rfl) (fun _ _ _ h=>h) (Or.inl ⟨by rfl,?_⟩) hS ?_
       rotate_left
       · (intro w hSw;(try dsimp only at hSw);go_simp;(try with_reducible rfl))
       rotate_left
       simp only [Act.put,zq0,zq1,zq2,zq3,zq4,zq5]
       refine wpAnyH_take (i:=45) (v:=?_) rfl (by kernel_rfl) (by kernel_rfl) (by kernel_rfl) (fun _ _ _ h=>h) (Or.inl ⟨by rfl,?_⟩) hS ?_
       rotate_left
       · (intro w hSw;(try dsimp only at hSw);go_simp;(try with_reducible rfl))
       rotate_left
       simp only [Act.put,zq0,zq1,zq2,zq3,zq4,zq5]
       refine wpAnyH_take (i:=46) (v:=?_) rfl (by kernel_rfl) (by kernel_rfl) (by kernel_rfl) (fun _ _ _ h=>h) (Or.inr ⟨by rfl,?_⟩) hS ?_
       rotate_left
       · rfl
       rotate_left
       simp only [Act.put,zq0,zq1,zq2,zq3,zq4,zq5]
       refine wpAnyH_take (i:=47) (v:=?_) rfl (by kernel_rfl) (by kernel_rfl) (by kernel_rfl) (fun _ _ _ h=>h) (Or.inr ⟨by rfl,?_⟩) hS ?_
       rotate_left
       · rfl
       rotate_left
       simp only [Act.put,zq0,zq1,zq2,zq3,zq4,zq5]
       refine wpAnyH_take (i:=48) (v:=?_) rfl (by kernel_rfl) (by kernel_rfl) (by kernel_rfl) (fun _ _ _ h=>h) (Or.inr ⟨by rfl,?_⟩) hS ?_
       rotate_left
       · rfl
       rotate_left
       simp only [Act.put,zq0,zq1,zq2,zq3,zq4,zq5]
       refine wpAnyH_take (i:=49) (v:=?_) rfl (by kernel_rfl) (by kernel_rfl) (by kernel_rfl) (fun _ _ _ h=>h) (Or.inr ⟨by rfl,?_⟩) hS ?_
       rotate_left
       · rfl
       rotate_left
       simp only [Act.put,zq0,zq1,zq2,zq3,zq4,zq5]
       refine wpAnyH_take (i:=50) (v:=?_) rfl (by kernel_rfl) (by kernel_rfl) (by kernel_rfl) (fun _ _ _ h=>h) (Or.inr ⟨by rfl,?_⟩) hS ?_
       rotate_left
       · rfl
       rotate_left
       simp only [Act.put,zq0,zq1,zq2,zq3,zq4,zq5]
       refine wpAnyH_take (i:=51) (v:=?_) rfl (by kernel_rfl) (by kernel_rfl) (by kernel_rfl) (fun _ _ _ h=>h) (Or.inr ⟨by rfl,?_⟩) hS ?_
       rotate_left
       · rfl
       rotate_left
       simp only [Act.put,zq0,zq1,zq2,zq3,zq4,zq5]
       refine wpAnyH_take (i:=52) (v:=?_) rfl (by kernel_rfl) (by kernel_rfl) (by kernel_rfl) (fun _ _ _ h=>h) (Or.inl ⟨by rfl,?_⟩) hS ?_
       rotate_left
       · (intro w hSw;(try dsimp only at hSw);go_simp;(try with_reducible rfl))
       rotate_left
       simp only [Act.put,zq0,zq1,zq2,zq3,zq4,zq5]
       refine wpAnyH_done (by kernel_rfl) ?_ _
       have HT:=Lib.hid hS.1
       clear hS
       go_wp2_with fail
       go_meet
       exact ⟨by rw [hb.out],HT.out⟩
     have E2:=Lib.hid e1
     refine wpAnyH_take (i:=7) (v:=?_) rfl (by kernel_rfl) (by kernel_rfl) (by kernel_rfl) (fun _ _ _ h=>h) (Or.inl ⟨by rfl,?_⟩) hS ?_
     rotate_left
     · (intro w hSw;(try dsimp only at hSw);go_simp;(try with_reducible rfl))
     rotate_left
     simp only [Act.put,zq0,zq1,zq2,zq3,zq4,zq5]
     refine wpAnyH_take (i:=8) (v:=?_) rfl (by kernel_rfl) (by kernel_rfl) (by kernel_rfl) (fun _ _ _ h=>h) (Or.inl ⟨by rfl,?_⟩) hS ?_
     rotate_left
     · (intro w hSw;(try dsimp only at hSw);go_simp;(try with_reducible rfl))
     rotate_left
     simp only [Act.put,zq0,zq1,zq2,zq3,zq4,zq5]
     refine wpAnyH_take (i:=9) (v:=?_) rfl (by kernel_rfl) (by kernel_rfl) (by kernel_rfl) (fun _ _ _ h=>h) (Or.inl ⟨by rfl,?_⟩) hS ?_
     rotate_left
     · (intro w hSw;(try dsimp only at hSw);go_simp;(try with_reducible rfl))
     rotate_left
     simp only [Act.put,zq0,zq1,zq2,zq3,zq4,zq5]
     refine wpAnyH_take (i:=10) (v:=?_) rfl (by kernel_rfl) (by kernel_rfl) (by kernel_rfl) (fun _ _ _ h=>h) (Or.inl ⟨by rfl,?_⟩) hS ?_
     rotate_left
     · (intro w hSw;(try dsimp only at hSw);go_simp;(try with_reducible rfl))
     rotate_left
     simp only [Act.put,zq0,zq1,zq2,zq3,zq4,zq5]
     refine wpAnyH_take (i:=11) (v:=?_) rfl (by kernel_rfl) (by kernel_rfl) (by kernel_rfl) (fun _ _ _ h=>h) (Or.inl ⟨by rfl,?_⟩) hS ?_
     rotate_left
     · (intro w hSw;(try dsimp only at hSw);go_simp;(try with_reducible rfl))
     rotate_left
     simp only [Act.put,zq0,zq1,zq2,zq3,zq4,zq5]
     clear e1
     rcases Bool.eq_false_or_eq_true (decide (lvN x < 2)) with e1 | e1
     · have hb : Hid (bv = true):=by show _ = _;rw [HBVE.out,E1.out,E2.out,e1];rfl
       refine wpAnyH_take (i:=12) (v:=?_) rfl (by kernel_rfl) (by kernel_rfl) (by kernel_rfl) (fun _ _ _ h=>h) (Or.inl ⟨by rfl,?_⟩) hS ?_
       rotate_left
       · (intro w hSw;(try dsimp only at hSw);go_simp;(try with_reducible rfl))
       rotate_left
       simp only [Act.put,zq0,zq1,zq2,zq3,zq4,zq5]
       refine wpAnyH_take (i:=13) (v:=?_) rfl (by kernel_rfl) (by kernel_rfl) (by kernel_rfl) (fun _ _ _ h=>h) (Or.inl ⟨by rfl,?_⟩) hS ?_
       rotate_left
       · (intro w hSw;(try dsimp only at hSw);go_simp;(try with_reducible rfl))
       rotate_left
       simp only [Act.put,zq0,zq1,zq2,zq3,zq4,zq5]
       refine wpAnyH_take (i:=14) (v:=?_) rfl (by kernel_rfl) (by kernel_rfl) (by kernel_rfl) (fun _ _ _ h=>h) (Or.inl ⟨by rfl,?_⟩) hS ?_
       rotate_left
       · (intro w hSw;(try dsimp only at hSw);go_simp;(try with_reducible rfl))
       rotate_left
       simp only [Act.put,zq0,zq1,zq2,zq3,zq4,zq5]
       refine wpAnyH_take (i:=15) (v:=?_) rfl (by kernel_rfl) (by kernel_rfl) (by kernel_rfl) (fun _ _ _ h=>h) (Or.inr ⟨by rfl,?_⟩) hS ?_
       rotate_left
       · rfl
       rotate_left
       simp only [Act.put,zq0,zq1,zq2,zq3,zq4,zq5]
       refine wpAnyH_take (i:=16) (v:=?_) rfl (by kernel_rfl) (by kernel_rfl) (by kernel_rfl) (fun _ _ _ h=>h) (Or.inr ⟨by rfl,?_⟩) hS ?_
       rotate_left
       · rfl
       rotate_left
       simp only [Act.put,zq0,zq1,zq2,zq3,zq4,zq5]
       refine wpAnyH_take (i:=17) (v:=?_) rfl (by kernel_rfl) (by kernel_rfl) (by kernel_rfl) (fun _ _ _ h=>h) (Or.inr ⟨by rfl,?_⟩) hS ?_
       rotate_left
       · rfl
       rotate_left
       simp only [Act.put,zq0,zq1,zq2,zq3,zq4,zq5]
       refine wpAnyH_take (i:=18) (v:=?_) rfl (by kernel_rfl) (by kernel_rfl) (by kernel_rfl) (fun _ _ _ h=>h) (Or.inr ⟨by rfl,?_⟩) hS ?_
       rotate_left
       · rfl
       rotate_left
       simp only [Act.put,zq0,zq1,zq2,zq3,zq4,zq5]
       refine wpAnyH_take (i:=19) (v:=?_) rfl (by kernel_rfl) (by kernel_rfl) (by kernel_rfl) (fun _ _ _ h=>h) (Or.inl ⟨by rfl,?_⟩) hS ?_
       rotate_left
       · (intro w hSw;(try dsimp only at hSw);go_simp;(try with_reducible rfl))
       rotate_left
       simp only [Act.put,zq0,zq1,zq2,zq3,zq4,zq5]
       refine wpAnyH_take (i:=20) (v:=?_) rfl (by kernel_rfl) (by kernel_rfl) (by kernel_rfl) (fun _ _ _ h=>h) (Or.inl ⟨by rfl,?_⟩) hS ?_
       rotate_left
       · (intro w hSw;(try dsimp only at hSw);go_simp;(try with_reducible rfl))
       rotate_left
       simp only [Act.put,zq0,zq1,zq2,zq3,zq4,zq5]
       refine wpAnyH_take (i:=21) (v:=?_) rfl (by kernel_rfl) (by kernel_rfl) (by kernel_rfl) (fun _ _ _ h=>h) (Or.inr ⟨by rfl,?_⟩) hS ?_
       rotate_left
       · rfl
       rotate_left
       simp only [Act.put,zq0,zq1,zq2,zq3,zq4,zq5]
       refine wpAnyH_take (i:=22) (v:=?_) rfl (by kernel_rfl) (by kernel_rfl) (by kernel_rfl) (fun _ _ _ h=>h) (Or.inr ⟨by rfl,?_⟩) hS ?_
       rotate_left
       · rfl
       rotate_left
       simp only [Act.put,zq0,zq1,zq2,zq3,zq4,zq5]
       refine wpAnyH_take (i:=23) (v:=?_) rfl (by kernel_rfl) (by kernel_rfl) (by kernel_rfl) (fun _ _ _ h=>h) (Or.inr ⟨by rfl,?_⟩) hS ?_
       rotate_left
       · rfl
       rotate_left
       simp only [Act.put,zq0,zq1,zq2,zq3,zq4,zq5]
       refine wpAnyH_take (i:=24) (v:=?_) rfl (by kernel_rfl) (by kernel_rfl) (by kernel_rfl) (fun _ _ _ h=>h) (Or.inl ⟨by rfl,?_⟩) hS ?_
       rotate_left
       · (intro w hSw;(try dsimp only at hSw);go_simp;(try with_reducible rfl))
       rotate_left
       simp only [Act.put,zq0,zq1,zq2,zq3,zq4,zq5]
       refine wpAnyH_take (i:=25) (v:=?_) rfl (by kernel_rfl) (by kernel_rfl) (by kernel_rfl) (fun _ _ _ h=>h) (Or.inl ⟨by rfl,?_⟩) hS ?_
       rotate_left
       · (intro w hSw;(try dsimp only at hSw);go_simp;(try with_reducible rfl))
       rotate_left
       simp only [Act.put,zq0,zq1,zq2,zq3,zq4,zq5]
       refine wpAnyH_take (i:=26) (v:=?_) rfl (by kernel_rfl) (by kernel_rfl) (by kernel_rfl) (fun _ _ _ h=>h) (Or.inr ⟨by rfl,?_⟩) hS ?_
       rotate_left
       · rfl
       rotate_left
       simp only [Act.put,zq0,zq1,zq2,zq3,zq4,zq5]
       refine wpAnyH_take (i:=27) (v:=?_) rfl (by kernel_rfl) (by kernel_rfl) (by kernel_rfl) (fun _ _ _ h=>h) (Or.inr ⟨by rfl,?_⟩) hS ?_
       rotate_left
       · rfl
       rotate_left
       simp only [Act.put,zq0,zq1,zq2,zq3,zq4,zq5]
       refine wpAnyH_take (i:=28) (v:=?_) rfl (by kernel_rfl) (by kernel_rfl) (by kernel_rfl) (fun _ _ _ h=>h) (Or.inr ⟨by rfl,?_⟩) hS ?_
       rotate_left
       · rfl
       rotate_left
       simp only [Act.put,zq0,zq1,zq2,zq3,zq4,zq5]
       refine wpAnyH_take (i:=29) (v:=?_) rfl (by kernel_rfl) (by kernel_rfl) (by kernel_rfl) (fun _ _ _ h=>h) (Or.inr ⟨by rfl,?_⟩) hS ?_
       rotate_left
       · rfl
       rotate_left
       simp only [Act.put,zq0,zq1,zq2,zq3,zq4,zq5]
       refine wpAnyH_take (i:=30) (v:=?_) rfl (by kernel_rfl) (by kernel_rfl) (by kernel_rfl) (fun _ _ _ h=>h) (Or.inr ⟨by rfl,?_⟩) hS ?_
       rotate_left
       · rfl
       rotate_left
       simp only [Act.put,zq0,zq1,zq2,zq3,zq4,zq5]
       refine wpAnyH_take (i:=31) (v:=?_) rfl (by kernel_rfl) (by kernel_rfl) (by kernel_rfl) (fun _ _ _ h=>h) (Or.inr ⟨by rfl,?_⟩) hS ?_
       rotate_left
       · rfl
       rotate_left
       simp only [Act.put,zq0,zq1,zq2,zq3,zq4,zq5]
       refine wpAnyH_take (i:=32) (v:=?_) rfl (by kernel_rfl) (by kernel_rfl) (by kernel_rfl) (fun _ _ _ h=>h) (Or.inr ⟨by rfl,?_⟩) hS ?_
       rotate_left
       · rfl
       rotate_left
       simp only [Act.put,zq0,zq1,zq2,zq3,zq4,zq5]
       refine wpAnyH_take (i:=33) (v:=?_) rfl (by kernel_rfl) (by kernel_rfl) (by kernel_rfl) (fun _ _ _ h=>h) (Or.inr ⟨by rfl,?_⟩) hS ?_
       rotate_left
       · rfl
       rotate_left
       simp only [Act.put,zq0,zq1,zq2,zq3,zq4,zq5]
       refine wpAnyH_take (i:=34) (v:=?_) rfl (by kernel_rfl) (by kernel_rfl) (by kernel_rfl) (fun _ _ _ h=>h) (Or.inr ⟨by rfl,?_⟩) hS ?_
       rotate_left
       · rfl
       rotate_left
       simp only [Act.put,zq0,zq1,zq2,zq3,zq4,zq5]
       refine wpAnyH_take (i:=35) (v:=?_) rfl (by kernel_rfl) (by kernel_rfl) (by kernel_rfl) (fun _ _ _ h=>h) (Or.inr ⟨by rfl,?_⟩) hS ?_
       rotate_left
       · rfl
       rotate_left
       simp only [Act.put,zq0,zq1,zq2,zq3,zq4,zq5]
       refine wpAnyH_take (i:=36) (v:=?_) rfl (by kernel_rfl) (by kernel_rfl) (by kernel_rfl) (fun _ _ _ h=>h) (Or.inr ⟨by rfl,?_⟩) hS ?_
       rotate_left
       · rfl
       rotate_left
       simp only [Act.put,zq0,zq1,zq2,zq3,zq4,zq5]
       refine wpAnyH_take (i:=37) (v:=?_) rfl (by kernel_rfl) (by kernel_rfl) (by kernel_rfl) (fun _ _ _ h=>h) (Or.inr ⟨by rfl,?_⟩) hS ?_
       rotate_left
       · rfl
       rotate_left
       simp only [Act.put,zq0,zq1,zq2,zq3,zq4,zq5]
       refine wpAnyH_take (i:=38) (v:=?_) rfl (by kernel_rfl) (by kernel_rfl) (by kernel_rfl) (fun _ _ _ h=>h) (Or.inr ⟨by rfl,?_⟩) hS ?_
       rotate_left
       · rfl
       rotate_left
       simp only [Act.put,zq0,zq1,zq2,zq3,zq4,zq5]
       refine wpAnyH_take (i:=39) (v:=?_) rfl (by kernel_rfl) (by kernel_rfl) (by kernel_rfl) (fun _ _ _ h=>h) (Or.inr ⟨by rfl,?_⟩) hS ?_
       rotate_left
       · rfl
       rotate_left
       simp only [Act.put,zq0,zq1,zq2,zq3,zq4,zq5]
       refine wpAnyH_take (i:=40) (v:=?_) rfl (by kernel_rfl) (by kernel_rfl) (by kernel_rfl) (fun _ _ _ h=>h) (Or.inr ⟨by rfl,?_⟩) hS ?_
       rotate_left
       · rfl
       rotate_left
       simp only [Act.put,zq0,zq1,zq2,zq3,zq4,zq5]
       refine wpAnyH_take (i:=41) (v:=?_) rfl (by kernel_rfl) (by kernel_rfl) (by kernel_rfl) (fun _ _ _ h=>h) (Or.inr ⟨by rfl,?_⟩) hS ?_
       rotate_left
       · rfl
       rotate_left
       simp only [Act.put,zq0,zq1,zq2,zq3,zq4,zq5]
       refine wpAnyH_take (i:=42) (v:=?_) rfl (by kernel_rfl) (by kernel_rfl) (by kernel_rfl) (fun _ _ _ h=>h) (Or.inr ⟨by rfl,?_⟩) hS ?_
       rotate_left
       · rfl
       rotate_left
       simp only [Act.put,zq0,zq1,zq2,zq3,zq4,zq5]
       refine wpAnyH_take (i:=43) (v:=?_) rfl (by kernel_rfl) (by kernel_rfl) (by kernel_rfl) (fun _ _ _ h=>h) (Or.inr ⟨by rfl,?_⟩) hS ?_
       rotate_left
       · rfl
       rotate_left
       simp only [Act.put,zq0,zq1,zq2,zq3,zq4,zq5]
       refine wpAnyH_take (i:=44) (v:=?_) rfl (by kernel_rfl) (by kernel_rfl) (by kernel_rfl) (fun _ _ _ h=>h) (Or.inl ⟨by rfl,?_⟩) hS ?_
       rotate_left
       · (intro w hSw;(try dsimp only at hSw);go_simp;(try with_reducible rfl))
       rotate_left
       simp only [Act.put,zq0,zq1,zq2,zq3,zq4,zq5]
       refine wpAnyH_take (i:=45) (v:=?_) rfl (by kernel_rfl) (by kernel_rfl) (by kernel_rfl) (fun _ _ _ h=>h) (Or.inl ⟨by rfl,?_⟩) hS ?_
       rotate_left
       · (intro w hSw;(try dsimp only at hSw);go_simp;(try with_reducible rfl))
       rotate_left
       simp only [Act.put,zq0,zq1,zq2,zq3,zq4,zq5]
       refine wpAnyH_take (i:=46) (v:=?_) rfl (by kernel_rfl) (by kernel_rfl) (by kernel_rfl) (fun _ _ _ h=>h) (Or.inr ⟨by rfl,?_⟩) hS ?_
       rotate_left
       · rfl
       rotate_left
       simp only [Act.put,zq0,zq1,zq2,zq3,zq4,zq5]
       refine wpAnyH_take (i:=47) (v:=?_) rfl (by kernel_rfl) (by kernel_rfl) (by kernel_rfl) (fun _ _ _ h=>h) (Or.inr ⟨by rfl,?_⟩) hS ?_
       rotate_left
       · rfl
       rotate_left
       simp only [Act.put,zq0,zq1,zq2,zq3,zq4,zq5]
       refine wpAnyH_take (i:=48) (v:=?_) rfl (by kernel_rfl) (by kernel_rfl) (by kernel_rfl) (fun _ _ _ h=>h) (Or.inr ⟨by rfl,?_⟩) hS ?_
       rotate_left
       · rfl
       rotate_left
       simp only [Act.put,zq0,zq1,zq2,zq3,zq4,zq5]
       refine wpAnyH_take (i:=49) (v:=?_) rfl (by kernel_rfl) (by kernel_rfl) (by kernel_rfl) (fun _ _ _ h=>h) (Or.inr ⟨by rfl,?_⟩) hS ?_
       rotate_left
       · rfl
       rotate_left
       simp only [Act.put,zq0,zq1,zq2,zq3,zq4,zq5]
       refine wpAnyH_take (i:=50) (v:=?_) rfl (by kernel_rfl) (by kernel_rfl) (by kernel_rfl) (fun _ _ _ h=>h) (Or.inr ⟨by rfl,?_⟩) hS ?_
       rotate_left
       · rfl
       rotate_left
       simp only [Act.put,zq0,zq1,zq2,zq3,zq4,zq5]
       refine wpAnyH_take (i:=51) (v:=?_) rfl (by kernel_rfl) (by kernel_rfl) (by kernel_rfl) (fun _ _ _ h=>h) (Or.inr ⟨by rfl,?_⟩) hS ?_
       rotate_left
       · rfl
       rotate_left
       simp only [Act.put,zq0,zq1,zq2,zq3,zq4,zq5]
       refine wpAnyH_take (i:=52) (v:=?_) rfl (by kernel_rfl) (by kernel_rfl) (by kernel_rfl) (fun _ _ _ h=>h) (Or.inl ⟨by rfl,?_⟩) hS ?_
       rotate_left
       · (intro w hSw;(try dsimp only at hSw);go_simp;(try with_reducible rfl))
       rotate_left
       simp only [Act.put,zq0,zq1,zq2,zq3,zq4,zq5]
       refine wpAnyH_done (by kernel_rfl) ?_ _
       have HT:=Lib.hid hS.1
       clear hS
       go_wp2_with fail
       go_meet
       exact ⟨by rw [hb.out],HT.out⟩
     have E3:=Lib.hid e1
     refine wpAnyH_take (i:=12) (v:=?_) rfl (by kernel_rfl) (by kernel_rfl) (by kernel_rfl) (fun _ _ _ h=>h) (Or.inl ⟨by rfl,?_⟩) hS ?_
     rotate_left
     · (intro w hSw;(try dsimp only at hSw);go_simp;(try with_reducible rfl))
     rotate_left
     simp only [Act.put,zq0,zq1,zq2,zq3,zq4,zq5]
     refine wpAnyH_take (i:=13) (v:=?_) rfl (by kernel_rfl) (by kernel_rfl) (by kernel_rfl) (fun _ _ _ h=>h) (Or.inl ⟨by rfl,?_⟩) hS ?_
     rotate_left
     · (intro w hSw;(try dsimp only at hSw);go_simp;(try with_reducible rfl))
     rotate_left
     simp only [Act.put,zq0,zq1,zq2,zq3,zq4,zq5]
     refine wpAnyH_take (i:=14) (v:=?_) rfl (by kernel_rfl) (by kernel_rfl) (by kernel_rfl) (fun _ _ _ h=>h) (Or.inl ⟨by rfl,?_⟩) hS ?_
     rotate_left
     · (intro w hSw;(try dsimp only at hSw);go_simp;(try with_reducible rfl))
     rotate_left
     simp only [Act.put,zq0,zq1,zq2,zq3,zq4,zq5]
     refine wpAnyH_take (i:=15) (v:=?_) rfl (by kernel_rfl) (by kernel_rfl) (by kernel_rfl) (fun _ _ _ h=>h) (Or.inl ⟨by rfl,?_⟩) hS ?_
     rotate_left
     · (intro w hSw;(try dsimp only at hSw);go_simp;(try with_reducible rfl))
     rotate_left
     simp only [Act.put,zq0,zq1,zq2,zq3,zq4,zq5]
     refine wpAnyH_take (i:=16) (v:=?_) rfl (by kernel_rfl) (by kernel_rfl) (by kernel_rfl) (fun _ _ _ h=>h) (Or.inl ⟨by rfl,?_⟩) hS ?_
     rotate_left
     · (intro w hSw;(try dsimp only at hSw);go_simp;(try with_reducible rfl))
     rotate_left
     simp only [Act.put,zq0,zq1,zq2,zq3,zq4,zq5]
     refine wpAnyH_take (i:=17) (v:=?_) rfl (by kernel_rfl) (by kernel_rfl) (by kernel_rfl) (fun _ _ _ h=>h) (Or.inl ⟨by rfl,?_⟩) hS ?_
     rotate_left
     · (intro w hSw;(try dsimp only at hSw);go_simp;(try with_reducible rfl))
     rotate_left
     simp only [Act.put,zq0,zq1,zq2,zq3,zq4,zq5]
     clear e1
     rcases Bool.eq_false_or_eq_true (decide (nd < lvN x)) with e1 | e1
     · have hb : Hid (bv = true):=by show _ = _;rw [HBVE.out,E1.out,E2.out,E3.out,e1];rfl
       refine wpAnyH_take (i:=18) (v:=?_) rfl (by kernel_rfl) (by kernel_rfl) (by kernel_rfl) (fun _ _ _ h=>h) (Or.inl ⟨by rfl,?_⟩) hS ?_
       rotate_left
       · (intro w hSw;(try dsimp only at hSw);go_simp;(try with_reducible rfl))
       rotate_left
       simp only [Act.put,zq0,zq1,zq2,zq3,zq4,zq5]
       refine wpAnyH_take (i:=19) (v:=?_) rfl (by kernel_rfl) (by kernel_rfl) (by kernel_rfl) (fun _ _ _ h=>h) (Or.inl ⟨by rfl,?_⟩) hS ?_
       rotate_left
       · (intro w hSw;(try dsimp only at hSw);go_simp;(try with_reducible rfl))
       rotate_left
       simp only [Act.put,zq0,zq1,zq2,zq3,zq4,zq5]
       refine wpAnyH_take (i:=20) (v:=?_) rfl (by kernel_rfl) (by kernel_rfl) (by kernel_rfl) (fun _ _ _ h=>h) (Or.inl ⟨by rfl,?_⟩) hS ?_
       rotate_left
       · (intro w hSw;(try dsimp only at hSw);go_simp;(try with_reducible rfl))
       rotate_left
       simp only [Act.put,zq0,zq1,zq2,zq3,zq4,zq5]
       refine wpAnyH_take (i:=21) (v:=?_) rfl (by kernel_rfl) (by kernel_rfl) (by kernel_rfl) (fun _ _ _ h=>h) (Or.inr ⟨by rfl,?_⟩) hS ?_
       rotate_left
       · rfl
       rotate_left
       simp only [Act.put,zq0,zq1,zq2,zq3,zq4,zq5]
       refine wpAnyH_take (i:=22) (v:=?_) rfl (by kernel_rfl) (by kernel_rfl) (by kernel_rfl) (fun _ _ _ h=>h) (Or.inr ⟨by rfl,?_⟩) hS ?_
       rotate_left
       · rfl
       rotate_left
       simp only [Act.put,zq0,zq1,zq2,zq3,zq4,zq5]
       refine wpAnyH_take (i:=23) (v:=?_) rfl (by kernel_rfl) (by kernel_rfl) (by kernel_rfl) (fun _ _ _ h=>h) (Or.inr ⟨by rfl,?_⟩) hS ?_
       rotate_left
       · rfl
       rotate_left
       simp only [Act.put,zq0,zq1,zq2,zq3,zq4,zq5]
       refine wpAnyH_take (i:=24) (v:=?_) rfl (by kernel_rfl) (by kernel_rfl) (by kernel_rfl) (fun _ _ _ h=>h) (Or.inl ⟨by rfl,?_⟩) hS ?_
       rotate_left
       · (intro w hSw;(try dsimp only at hSw);go_simp;(try with_reducible rfl))
       rotate_left
       simp only [Act.put,zq0,zq1,zq2,zq3,zq4,zq5]
       refine wpAnyH_take (i:=25) (v:=?_) rfl (by kernel_rfl) (by kernel_rfl) (by kernel_rfl) (fun _ _ _ h=>h) (Or.inl ⟨by rfl,?_⟩) hS ?_
       rotate_left
       · (intro w hSw;(try dsimp only at hSw);go_simp;(try with_reducible rfl))
       rotate_left
       simp only [Act.put,zq0,zq1,zq2,zq3,zq4,zq5]
       refine wpAnyH_take (i:=26) (v:=?_) rfl (by kernel_rfl) (by kernel_rfl) (by kernel_rfl) (fun _ _ _ h=>h) (Or.inr ⟨by rfl,?_⟩) hS ?_
       rotate_left
       · rfl
       rotate_left
       simp only [Act.put,zq0,zq1,zq2,zq3,zq4,zq5]
       refine wpAnyH_take (i:=27) (v:=?_) rfl (by kernel_rfl) (by kernel_rfl) (by kernel_rfl) (fun _ _ _ h=>h) (Or.inr ⟨by rfl,?_⟩) hS ?_
       rotate_left
       · rfl
       rotate_left
       simp only [Act.put,zq0,zq1,zq2,zq3,zq4,zq5]
       refine wpAnyH_take (i:=28) (v:=?_) rfl (by kernel_rfl) (by kernel_rfl) (by kernel_rfl) (fun _ _ _ h=>h) (Or.inr ⟨by rfl,?_⟩) hS ?_
       rotate_left
       · rfl
       rotate_left
       simp only [Act.put,zq0,zq1,zq2,zq3,zq4,zq5]
       refine wpAnyH_take (i:=29) (v:=?_) rfl (by kernel_rfl) (by kernel_rfl) (by kernel_rfl) (fun _ _ _ h=>h) (Or.inr ⟨by rfl,?_⟩) hS ?_
       rotate_left
       · rfl
       rotate_left
       simp only [Act.put,zq0,zq1,zq2,zq3,zq4,zq5]
       refine wpAnyH_take (i:=30) (v:=?_) rfl (by kernel_rfl) (by kernel_rfl) (by kernel_rfl) (fun _ _ _ h=>h) (Or.inr ⟨by rfl,?_⟩) hS ?_
       rotate_left
       · rfl
       rotate_left
       simp only [Act.put,zq0,zq1,zq2,zq3,zq4,zq5]
       refine wpAnyH_take (i:=31) (v:=?_) rfl (by kernel_rfl) (by kernel_rfl) (by kernel_rfl) (fun _ _ _ h=>h) (Or.inr ⟨by rfl,?_⟩) hS ?_
       rotate_left
       · rfl
       rotate_left
       simp only [Act.put,zq0,zq1,zq2,zq3,zq4,zq5]
       refine wpAnyH_take (i:=32) (v:=?_) rfl (by kernel_rfl) (by kernel_rfl) (by kernel_rfl) (fun _ _ _ h=>h) (Or.inr ⟨by rfl,?_⟩) hS ?_
       rotate_left
       · rfl
       rotate_left
       simp only [Act.put,zq0,zq1,zq2,zq3,zq4,zq5]
       refine wpAnyH_take (i:=33) (v:=?_) rfl (by kernel_rfl) (by kernel_rfl) (by kernel_rfl) (fun _ _ _ h=>h) (Or.inr ⟨by rfl,?_⟩) hS ?_
       rotate_left
       · rfl
       rotate_left
       simp only [Act.put,zq0,zq1,zq2,zq3,zq4,zq5]
       refine wpAnyH_take (i:=34) (v:=?_) rfl (by kernel_rfl) (by kernel_rfl) (by kernel_rfl) (fun _ _ _ h=>h) (Or.inr ⟨by rfl,?_⟩) hS ?_
       rotate_left
       · rfl
       rotate_left
       simp only [Act.put,zq0,zq1,zq2,zq3,zq4,zq5]
       refine wpAnyH_take (i:=35) (v:=?_) rfl (by kernel_rfl) (by kernel_rfl) (by kernel_rfl) (fun _ _ _ h=>h) (Or.inr ⟨by rfl,?_⟩) hS ?_
       rotate_left
       · rfl
       rotate_left
       simp only [Act.put,zq0,zq1,zq2,zq3,zq4,zq5]
       refine wpAnyH_take (i:=36) (v:=?_) rfl (by kernel_rfl) (by kernel_rfl) (by kernel_rfl) (fun _ _ _ h=>h) (Or.inr ⟨by rfl,?_⟩) hS ?_
       rotate_left
       · rfl
       rotate_left
       simp only [Act.put,zq0,zq1,zq2,zq3,zq4,zq5]
       refine wpAnyH_take (i:=37) (v:=?_) rfl (by kernel_rfl) (by kernel_rfl) (by kernel_rfl) (fun _ _ _ h=>h) (Or.inr ⟨by rfl,?_⟩) hS ?_
       rotate_left
       · rfl
       rotate_left
       simp only [Act.put,zq0,zq1,zq2,zq3,zq4,zq5]
       refine wpAnyH_take (i:=38) (v:=?_) rfl (by kernel_rfl) (by kernel_rfl) (by kernel_rfl) (fun _ _ _ h=>h) (Or.inr ⟨by rfl,?_⟩) hS ?_
       rotate_left
       · rfl
       rotate_left
       simp only [Act.put,zq0,zq1,zq2,zq3,zq4,zq5]
       refine wpAnyH_take (i:=39) (v:=?_) rfl (by kernel_rfl) (by kernel_rfl) (by kernel_rfl) (fun _ _ _ h=>h) (Or.inr ⟨by rfl,?_⟩) hS ?_
       rotate_left
       · rfl
       rotate_left
       simp only [Act.put,zq0,zq1,zq2,zq3,zq4,zq5]
       refine wpAnyH_take (i:=40) (v:=?_) rfl (by kernel_rfl) (by kernel_rfl) (by kernel_rfl) (fun _ _ _ h=>h) (Or.inr ⟨by rfl,?_⟩) hS ?_
       rotate_left
       · rfl
       rotate_left
       simp only [Act.put,zq0,zq1,zq2,zq3,zq4,zq5]
       refine wpAnyH_take (i:=41) (v:=?_) rfl (by kernel_rfl) (by kernel_rfl) (by kernel_rfl) (fun _ _ _ h=>h) (Or.inr ⟨by rfl,?_⟩) hS ?_
       rotate_left
       · rfl
       rotate_left
       simp only [Act.put,zq0,zq1,zq2,zq3,zq4,zq5]
       refine wpAnyH_take (i:=42) (v:=?_) rfl (by kernel_rfl) (by kernel_rfl) (by kernel_rfl) (fun _ _ _ h=>h) (Or.inr ⟨by rfl,?_⟩) hS ?_
       rotate_left
       · rfl
       rotate_left
       simp only [Act.put,zq0,zq1,zq2,zq3,zq4,zq5]
       refine wpAnyH_take (i:=43) (v:=?_) rfl (by kernel_rfl) (by kernel_rfl) (by kernel_rfl) (fun _ _ _ h=>h) (Or.inr ⟨by rfl,?_⟩) hS ?_
       rotate_left
       · rfl
       rotate_left
       simp only [Act.put,zq0,zq1,zq2,zq3,zq4,zq5]
       refine wpAnyH_take (i:=44) (v:=?_) rfl (by kernel_rfl) (by kernel_rfl) (by kernel_rfl) (fun _ _ _ h=>h) (Or.inl ⟨by rfl,?_⟩) hS ?_
       rotate_left
       · (intro w hSw;(try dsimp only at hSw);go_simp;(try with_reducible rfl))
       rotate_left
       simp only [Act.put,zq0,zq1,zq2,zq3,zq4,zq5]
       refine wpAnyH_take (i:=45) (v:=?_) rfl (by kernel_rfl) (by kernel_rfl) (by kernel_rfl) (fun _ _ _ h=>h) (Or.inl ⟨by rfl,?_⟩) hS ?_
       rotate_left
       · (intro w hSw;(try dsimp only at hSw);go_simp;(try with_reducible rfl))
       rotate_left
       simp only [Act.put,zq0,zq1,zq2,zq3,zq4,zq5]
       refine wpAnyH_take (i:=46) (v:=?_) rfl (by kernel_rfl) (by kernel_rfl) (by kernel_rfl) (fun _ _ _ h=>h) (Or.inr ⟨by rfl,?_⟩) hS ?_
       rotate_left
       · rfl
       rotate_left
       simp only [Act.put,zq0,zq1,zq2,zq3,zq4,zq5]
       refine wpAnyH_take (i:=47) (v:=?_) rfl (by kernel_rfl) (by kernel_rfl) (by kernel_rfl) (fun _ _ _ h=>h) (Or.inr ⟨by rfl,?_⟩) hS ?_
       rotate_left
       · rfl
       rotate_left
       simp only [Act.put,zq0,zq1,zq2,zq3,zq4,zq5]
       refine wpAnyH_take (i:=48) (v:=?_) rfl (by kernel_rfl) (by kernel_rfl) (by kernel_rfl) (fun _ _ _ h=>h) (Or.inr ⟨by rfl,?_⟩) hS ?_
       rotate_left
       · rfl
       rotate_left
       simp only [Act.put,zq0,zq1,zq2,zq3,zq4,zq5]
       refine wpAnyH_take (i:=49) (v:=?_) rfl (by kernel_rfl) (by kernel_rfl) (by kernel_rfl) (fun _ _ _ h=>h) (Or.inr ⟨by rfl,?_⟩) hS ?_
       rotate_left
       · rfl
       rotate_left
       simp only [Act.put,zq0,zq1,zq2,zq3,zq4,zq5]
       refine wpAnyH_take (i:=50) (v:=?_) rfl (by kernel_rfl) (by kernel_rfl) (by kernel_rfl) (fun _ _ _ h=>h) (Or.inr ⟨by rfl,?_⟩) hS ?_
       rotate_left
       · rfl
       rotate_left
       simp only [Act.put,zq0,zq1,zq2,zq3,zq4,zq5]
       refine wpAnyH_take (i:=51) (v:=?_) rfl (by kernel_rfl) (by kernel_rfl) (by kernel_rfl) (fun _ _ _ h=>h) (Or.inr ⟨by rfl,?_⟩) hS ?_
       rotate_left
       · rfl
       rotate_left
       simp only [Act.put,zq0,zq1,zq2,zq3,zq4,zq5]
       refine wpAnyH_take (i:=52) (v:=?_) rfl (by kernel_rfl) (by kernel_rfl) (by kernel_rfl) (fun _ _ _ h=>h) (Or.inl ⟨by rfl,?_⟩) hS ?_
       rotate_left
       · (intro w hSw;(try dsimp only at hSw);go_simp;(try with_reducible rfl))
       rotate_left
       simp only [Act.put,zq0,zq1,zq2,zq3,zq4,zq5]
       refine wpAnyH_done (by kernel_rfl) ?_ _
       have HT:=Lib.hid hS.1
       clear hS
       go_wp2_with fail
       go_meet
       exact ⟨by rw [hb.out],HT.out⟩
     have E4:=Lib.hid e1
     refine wpAnyH_take (i:=18) (v:=?_) rfl (by kernel_rfl) (by kernel_rfl) (by kernel_rfl) (fun _ _ _ h=>h) (Or.inl ⟨by rfl,?_⟩) hS ?_
     rotate_left
     · (intro w hSw;(try dsimp only at hSw);go_simp;(try with_reducible rfl))
     rotate_left
     simp only [Act.put,zq0,zq1,zq2,zq3,zq4,zq5]
     refine wpAnyH_take (i:=19) (v:=?_) rfl (by kernel_rfl) (by kernel_rfl) (by kernel_rfl) (fun _ _ _ h=>h) (Or.inl ⟨by rfl,?_⟩) hS ?_
     rotate_left
     · (intro w hSw;(try dsimp only at hSw);go_simp;(try with_reducible rfl))
     rotate_left
     simp only [Act.put,zq0,zq1,zq2,zq3,zq4,zq5]
     refine wpAnyH_take (i:=20) (v:=?_) rfl (by kernel_rfl) (by kernel_rfl) (by kernel_rfl) (fun _ _ _ h=>h) (Or.inl ⟨by rfl,?_⟩) hS ?_
     rotate_left
     · (intro w hSw;(try dsimp only at hSw);go_simp;(try with_reducible rfl))
     rotate_left
     simp only [Act.put,zq0,zq1,zq2,zq3,zq4,zq5]
     refine wpAnyH_take (i:=21) (v:=?_) rfl (by kernel_rfl) (by kernel_rfl) (by kernel_rfl) (fun _ _ _ h=>h) (Or.inl ⟨by rfl,?_⟩) hS ?_
     rotate_left
     · (intro w hSw;(try dsimp only at hSw);go_simp;(try with_reducible rfl))
     rotate_left
     simp only [Act.put,zq0,zq1,zq2,zq3,zq4,zq5]
     refine wpAnyH_take (i:=22) (v:=?_) rfl (by kernel_rfl) (by kernel_rfl) (by kernel_rfl) (fun _ _ _ h=>h) (Or.inl ⟨by rfl,?_⟩) hS ?_
     rotate_left
     · (intro w hSw;(try dsimp only at hSw);go_simp;(try with_reducible rfl))
     rotate_left
     simp only [Act.put,zq0,zq1,zq2,zq3,zq4,zq5]
     clear e1
     rcases Bool.eq_false_or_eq_true ((lvQ x : Int) == 0) with e1 | e1
     · have hb : Hid (bv = true):=by show _ = _;rw [HBVE.out,E1.out,E2.out,E3.out,E4.out,e1];rfl
       refine wpAnyH_take (i:=23) (v:=?_) rfl (by kernel_rfl) (by kernel_rfl) (by kernel_rfl) (fun _ _ _ h=>h) (Or.inl ⟨by rfl,?_⟩) hS ?_
       rotate_left
       · (intro w hSw;(try dsimp only at hSw);go_simp;(try with_reducible rfl))
       rotate_left
       simp only [Act.put,zq0,zq1,zq2,zq3,zq4,zq5]
       refine wpAnyH_take (i:=24) (v:=?_) rfl (by kernel_rfl) (by kernel_rfl) (by kernel_rfl) (fun _ _ _ h=>h) (Or.inl ⟨by rfl,?_⟩) hS ?_
       rotate_left
       · (intro w hSw;(try dsimp only at hSw);go_simp;(try with_reducible rfl))
       rotate_left
       simp only [Act.put,zq0,zq1,zq2,zq3,zq4,zq5]
       refine wpAnyH_take (i:=25) (v:=?_) rfl (by kernel_rfl) (by kernel_rfl) (by kernel_rfl) (fun _ _ _ h=>h) (Or.inl ⟨by rfl,?_⟩) hS ?_
       rotate_left
       · (intro w hSw;(try dsimp only at hSw);go_simp;(try with_reducible rfl))
       rotate_left
       simp only [Act.put,zq0,zq1,zq2,zq3,zq4,zq5]
       refine wpAnyH_take (i:=26) (v:=?_) rfl (by kernel_rfl) (by kernel_rfl) (by kernel_rfl) (fun _ _ _ h=>h) (Or.inr ⟨by rfl,?_⟩) hS ?_
       rotate_left
       · rfl
       rotate_left
       simp only [Act.put,zq0,zq1,zq2,zq3,zq4,zq5]
       refine wpAnyH_take (i:=27) (v:=?_) rfl (by kernel_rfl) (by kernel_rfl) (by kernel_rfl) (fun _ _ _ h=>h) (Or.inr ⟨by rfl,?_⟩) hS ?_
       rotate_left
       · rfl
       rotate_left
       simp only [Act.put,zq0,zq1,zq2,zq3,zq4,zq5]
       refine wpAnyH_take (i:=28) (v:=?_) rfl (by kernel_rfl) (by kernel_rfl) (by kernel_rfl) (fun _ _ _ h=>h) (Or.inr ⟨by rfl,?_⟩) hS ?_
       rotate_left
       · rfl
       rotate_left
       simp only [Act.put,zq0,zq1,zq2,zq3,zq4,zq5]
       refine wpAnyH_take (i:=29) (v:=?_) rfl (by kernel_rfl) (by kernel_rfl) (by kernel_rfl) (fun _ _ _ h=>h) (Or.inr ⟨by rfl,?_⟩) hS ?_
       rotate_left
       · rfl
       rotate_left
       simp only [Act.put,zq0,zq1,zq2,zq3,zq4,zq5]
       refine wpAnyH_take (i:=30) (v:=?_) rfl (by kernel_rfl) (by kernel_rfl) (by kernel_rfl) (fun _ _ _ h=>h) (Or.inr ⟨by rfl,?_⟩) hS ?_
       rotate_left
       · rfl
       rotate_left
       simp only [Act.put,zq0,zq1,zq2,zq3,zq4,zq5]
       refine wpAnyH_take (i:=31) (v:=?_) rfl (by kernel_rfl) (by kernel_rfl) (by kernel_rfl) (fun _ _ _ h=>h) (Or.inr ⟨by rfl,?_⟩) hS ?_
       rotate_left
       · rfl
       rotate_left
       simp only [Act.put,zq0,zq1,zq2,zq3,zq4,zq5]
       refine wpAnyH_take (i:=32) (v:=?_) rfl (by kernel_rfl) (by kernel_rfl) (by kernel_rfl) (fun _ _ _ h=>h) (Or.inr ⟨by rfl,?_⟩) hS ?_
       rotate_left
       · rfl
       rotate_left
       simp only [Act.put,zq0,zq1,zq2,zq3,zq4,zq5]
       refine wpAnyH_take (i:=33) (v:=?_) rfl (by kernel_rfl) (by kernel_rfl) (by kernel_rfl) (fun _ _ _ h=>h) (Or.inr ⟨by rfl,?_⟩) hS ?_
       rotate_left
       · rfl
       rotate_left
       simp only [Act.put,zq0,zq1,zq2,zq3,zq4,zq5]
       refine wpAnyH_take (i:=34) (v:=?_) rfl (by kernel_rfl) (by kernel_rfl) (by kernel_rfl) (fun _ _ _ h=>h) (Or.inr ⟨by rfl,?_⟩) hS ?_
       rotate_left
       · rfl
       rotate_left
       simp only [Act.put,zq0,zq1,zq2,zq3,zq4,zq5]
       refine wpAnyH_take (i:=35) (v:=?_) rfl (by kernel_rfl) (by kernel_rfl) (by kernel_rfl) (fun _ _ _ h=>h) (Or.inr ⟨by rfl,?_⟩) hS ?_
       rotate_left
       · rfl
       rotate_left
       simp only [Act.put,zq0,zq1,zq2,zq3,zq4,zq5]
       refine wpAnyH_take (i:=36) (v:=?_) rfl (by kernel_rfl) (by kernel_rfl) (by kernel_rfl) (fun _ _ _ h=>h) (Or.inr ⟨by rfl,?_⟩) hS ?_
       rotate_left
       · rfl
       rotate_left
       simp only [Act.put,zq0,zq1,zq2,zq3,zq4,zq5]
       refine wpAnyH_take (i:=37) (v:=?_) rfl (by kernel_rfl) (by kernel_rfl) (by kernel_rfl) (fun _ _ _ h=>h) (Or.inr ⟨by rfl,?_⟩) hS ?_
       rotate_left
       · rfl
       rotate_left
       simp only [Act.put,zq0,zq1,zq2,zq3,zq4,zq5]
       refine wpAnyH_take (i:=38) (v:=?_) rfl (by kernel_rfl) (by kernel_rfl) (by kernel_rfl) (fun _ _ _ h=>h) (Or.inr ⟨by rfl,?_⟩) hS ?_
       rotate_left
       · rfl
       rotate_left
       simp only [Act.put,zq0,zq1,zq2,zq3,zq4,zq5]
       refine wpAnyH_take (i:=39) (v:=?_) rfl (by kernel_rfl) (by kernel_rfl) (by kernel_rfl) (fun _ _ _ h=>h) (Or.inr ⟨by rfl,?_⟩) hS ?_
       rotate_left
       · rfl
       rotate_left
       simp only [Act.put,zq0,zq1,zq2,zq3,zq4,zq5]
       refine wpAnyH_take (i:=40) (v:=?_) rfl (by kernel_rfl) (by kernel_rfl) (by kernel_rfl) (fun _ _ _ h=>h) (Or.inr ⟨by rfl,?_⟩) hS ?_
       rotate_left
       · rfl
       rotate_left
       simp only [Act.put,zq0,zq1,zq2,zq3,zq4,zq5]
       refine wpAnyH_take (i:=41) (v:=?_) rfl (by kernel_rfl) (by kernel_rfl) (by kernel_rfl) (fun _ _ _ h=>h) (Or.inr ⟨by rfl,?_⟩) hS ?_
       rotate_left
       · rfl
       rotate_left
       simp only [Act.put,zq0,zq1,zq2,zq3,zq4,zq5]
       refine wpAnyH_take (i:=42) (v:=?_) rfl (by kernel_rfl) (by kernel_rfl) (by kernel_rfl) (fun _ _ _ h=>h) (Or.inr ⟨by rfl,?_⟩) hS ?_
       rotate_left
       · rfl
       rotate_left
       simp only [Act.put,zq0,zq1,zq2,zq3,zq4,zq5]
       refine wpAnyH_take (i:=43) (v:=?_) rfl (by kernel_rfl) (by kernel_rfl) (by kernel_rfl) (fun _ _ _ h=>h) (Or.inr ⟨by rfl,?_⟩) hS ?_
       rotate_left
       · rfl
       rotate_left
       simp only [Act.put,zq0,zq1,zq2,zq3,zq4,zq5]
       refine wpAnyH_take (i:=44) (v:=?_) rfl (by kernel_rfl) (by kernel_rfl) (by kernel_rfl) (fun _ _ _ h=>h) (Or.inl ⟨by rfl,?_⟩) hS ?_
       rotate_left
       · (intro w hSw;(try dsimp only at hSw);go_simp;(try with_reducible rfl))
       rotate_left
       simp only [Act.put,zq0,zq1,zq2,zq3,zq4,zq5]
       refine wpAnyH_take (i:=45) (v:=?_) rfl (by kernel_rfl) (by kernel_rfl) (by kernel_rfl) (fun _ _ _ h=>h) (Or.inl ⟨by rfl,?_⟩) hS ?_
       rotate_left
       · (intro w hSw;(try dsimp only at hSw);go_simp;(try with_reducible rfl))
       rotate_left
       simp only [Act.put,zq0,zq1,zq2,zq3,zq4,zq5]
       refine wpAnyH_take (i:=46) (v:=?_) rfl (by kernel_rfl) (by kernel_rfl) (by kernel_rfl) (fun _ _ _ h=>h) (Or.inr ⟨by rfl,?_⟩) hS ?_
       rotate_left
       · rfl
       rotate_left
       simp only [Act.put,zq0,zq1,zq2,zq3,zq4,zq5]
       refine wpAnyH_take (i:=47) (v:=?_) rfl (by kernel_rfl) (by kernel_rfl) (by kernel_rfl) (fun _ _ _ h=>h) (Or.inr ⟨by rfl,?_⟩) hS ?_
       rotate_left
       · rfl
       rotate_left
       simp only [Act.put,zq0,zq1,zq2,zq3,zq4,zq5]
       refine wpAnyH_take (i:=48) (v:=?_) rfl (by kernel_rfl) (by kernel_rfl) (by kernel_rfl) (fun _ _ _ h=>h) (Or.inr ⟨by rfl,?_⟩) hS ?_
       rotate_left
       · rfl
       rotate_left
       simp only [Act.put,zq0,zq1,zq2,zq3,zq4,zq5]
       refine wpAnyH_take (i:=49) (v:=?_) rfl (by kernel_rfl) (by kernel_rfl) (by kernel_rfl) (fun _ _ _ h=>h) (Or.inr ⟨by rfl,?_⟩) hS ?_
       rotate_left
       · rfl
       rotate_left
       simp only [Act.put,zq0,zq1,zq2,zq3,zq4,zq5]
       refine wpAnyH_take (i:=50) (v:=?_) rfl (by kernel_rfl) (by kernel_rfl) (by kernel_rfl) (fun _ _ _ h=>h) (Or.inr ⟨by rfl,?_⟩) hS ?_
       rotate_left
       · rfl
       rotate_left
       simp only [Act.put,zq0,zq1,zq2,zq3,zq4,zq5]
       refine wpAnyH_take (i:=51) (v:=?_) rfl (by kernel_rfl) (by kernel_rfl) (by kernel_rfl) (fun _ _ _ h=>h) (Or.inr ⟨by rfl,?_⟩) hS ?_
       rotate_left
       · rfl
       rotate_left
       simp only [Act.put,zq0,zq1,zq2,zq3,zq4,zq5]
       refine wpAnyH_take (i:=52) (v:=?_) rfl (by kernel_rfl) (by kernel_rfl) (by kernel_rfl) (fun _ _ _ h=>h) (Or.inl ⟨by rfl,?_⟩) hS ?_
       rotate_left
       · (intro w hSw;(try dsimp only at hSw);go_simp;(try with_reducible rfl))
       rotate_left
       simp only [Act.put,zq0,zq1,zq2,zq3,zq4,zq5]
       refine wpAnyH_done (by kernel_rfl) ?_ _
       have HT:=Lib.hid hS.1
       clear hS
       go_wp2_with fail
       go_meet
       exact ⟨by rw [hb.out],HT.out⟩
     have E5:=Lib.hid e1
     refine wpAnyH_take (i:=23) (v:=?_) rfl (by kernel_rfl) (by kernel_rfl) (by kernel_rfl) (fun _ _ _ h=>h) (Or.inl ⟨by rfl,?_⟩) hS ?_
     rotate_left
     · (intro w hSw;(try dsimp only at hSw);go_simp;(try with_reducible rfl))
     rotate_left
     simp only [Act.put,zq0,zq1,zq2,zq3,zq4,zq5]
     refine wpAnyH_take (i:=24) (v:=?_) rfl (by kernel_rfl) (by kernel_rfl) (by kernel_rfl) (fun _ _ _ h=>h) (Or.inl ⟨by rfl,?_⟩) hS ?_
     rotate_left
     · (intro w hSw;(try dsimp only at hSw);go_simp;(try with_reducible rfl))
     rotate_left
     simp only [Act.put,zq0,zq1,zq2,zq3,zq4,zq5]
     refine wpAnyH_take (i:=25) (v:=?_) rfl (by kernel_rfl) (by kernel_rfl) (by kernel_rfl) (fun _ _ _ h=>h) (Or.inl ⟨by rfl,?_⟩) hS ?_
     rotate_left
     · (intro w hSw;(try dsimp only at hSw);go_simp;(try with_reducible rfl))
     rotate_left
     simp only [Act.put,zq0,zq1,zq2,zq3,zq4,zq5]
     refine wpAnyH_take (i:=26) (v:=?_) rfl (by kernel_rfl) (by kernel_rfl) (by kernel_rfl) (fun _ _ _ h=>h) (Or.inl ⟨by rfl,?_⟩) hS ?_
     rotate_left
     · (intro w hSw;(try dsimp only at hSw);go_simp;(try with_reducible rfl))
     rotate_left
     simp only [Act.put,zq0,zq1,zq2,zq3,zq4,zq5]
     refine wpAnyH_take (i:=27) (v:=?_) rfl (by kernel_rfl) (by kernel_rfl) (by kernel_rfl) (fun _ _ _ h=>h) (Or.inl ⟨by rfl,?_⟩) hS ?_
     rotate_left
     · (intro w hSw;(try dsimp only at hSw);go_simp;(try with_reducible rfl))
     rotate_left
     simp only [Act.put,zq0,zq1,zq2,zq3,zq4,zq5]
     refine wpAnyH_take (i:=28) (v:=?_) rfl (by kernel_rfl) (by kernel_rfl) (by kernel_rfl) (fun _ _ _ h=>h) (Or.inl ⟨by rfl,?_⟩) hS ?_
     rotate_left
     · (intro w hSw;(try dsimp only at hSw);go_simp;(try with_reducible rfl))
     rotate_left
     simp only [Act.put,zq0,zq1,zq2,zq3,zq4,zq5]
     refine wpAnyH_take (i:=29) (v:=?_) rfl (by kernel_rfl) (by kernel_rfl) (by kernel_rfl) (fun _ _ _ h=>h) (Or.inl ⟨by rfl,?_⟩) hS ?_
     rotate_left
     · (intro w hSw;(try dsimp only at hSw);go_simp;(try with_reducible rfl))
     rotate_left
     simp only [Act.put,zq0,zq1,zq2,zq3,zq4,zq5]
     refine wpAnyH_take (i:=30) (v:=?_) rfl (by kernel_rfl) (by kernel_rfl) (by kernel_rfl) (fun _ _ _ h=>h) (Or.inl ⟨by rfl,?_⟩) hS ?_
     rotate_left
     · (intro w hSw;(try dsimp only at hSw);go_simp;(try with_reducible rfl))
     rotate_left
     simp only [Act.put,zq0,zq1,zq2,zq3,zq4,zq5]
     refine wpAnyH_take (i:=31) (v:=?_) rfl (by kernel_rfl) (by kernel_rfl) (by kernel_rfl) (fun _ _ _ h=>h) (Or.inl ⟨by rfl,?_⟩) hS ?_
     rotate_left
     · (intro w hSw;(try dsimp only at hSw);go_simp;(try with_reducible rfl))
     rotate_left
     simp only [Act.put,zq0,zq1,zq2,zq3,zq4,zq5]
     refine wpAnyH_take (i:=32) (v:=?_) rfl (by kernel_rfl) (by kernel_rfl) (by kernel_rfl) (fun _ _ _ h=>h) (Or.inl ⟨by rfl,?_⟩) hS ?_
     rotate_left
     · (intro w hSw;(try dsimp only at hSw);go_simp;(try with_reducible rfl))
     rotate_left
     simp only [Act.put,zq0,zq1,zq2,zq3,zq4,zq5]
     refine wpAnyH_take (i:=33) (v:=?_) rfl (by kernel_rfl) (by kernel_rfl) (by kernel_rfl) (fun _ _ _ h=>h) (Or.inl ⟨by rfl,?_⟩) hS ?_
     rotate_left
     · (intro w hSw;(try dsimp only at hSw);go_simp;(try with_reducible rfl))
     rotate_left
     simp only [Act.put,zq0,zq1,zq2,zq3,zq4,zq5]
     refine wpAnyH_take (i:=34) (v:=?_) rfl (by kernel_rfl) (by kernel_rfl) (by kernel_rfl) (fun _ _ _ h=>h) (Or.inl ⟨by rfl,?_⟩) hS ?_
     rotate_left
     · (intro w hSw;(try dsimp only at hSw);go_simp;(try with_reducible rfl))
     rotate_left
     simp only [Act.put,zq0,zq1,zq2,zq3,zq4,zq5]
     refine wpAnyH_take (i:=35) (v:=?_) rfl (by kernel_rfl) (by kernel_rfl) (by kernel_rfl) (fun _ _ _ h=>h) (Or.inl ⟨by rfl,?_⟩) hS ?_
     rotate_left
     · (intro w hSw;(try dsimp only at hSw);go_simp;(try with_reducible rfl))
     rotate_left
     simp only [Act.put,zq0,zq1,zq2,zq3,zq4,zq5]
     refine wpAnyH_take (i:=36) (v:=?_) rfl (by kernel_rfl) (by kernel_rfl) (by kernel_rfl) (fun _ _ _ h=>h) (Or.inl ⟨by rfl,?_⟩) hS ?_
     rotate_left
     · (intro w hSw;(try dsimp only at hSw);go_simp;(try with_reducible rfl))
     rotate_left
     simp only [Act.put,zq0,zq1,zq2,zq3,zq4,zq5]
     refine wpAnyH_take (i:=37) (v:=?_) rfl (by kernel_rfl) (by kernel_rfl) (by kernel_rfl) (fun _ _ _ h=>h) (Or.inl ⟨by rfl,?_⟩) hS ?_
     rotate_left
     · (intro w hSw;(try dsimp only at hSw);go_simp;(try with_reducible rfl))
     rotate_left
     simp only [Act.put,zq0,zq1,zq2,zq3,zq4,zq5]
     refine wpAnyH_take (i:=38) (v:=?_) rfl (by kernel_rfl) (by kernel_rfl) (by kernel_rfl) (fun _ _ _ h=>h) (Or.inl ⟨by rfl,?_⟩) hS ?_
     rotate_left
     · (intro w hSw;(try dsimp only at hSw);go_simp;(try with_reducible rfl))
     rotate_left
     simp only [Act.put,zq0,zq1,zq2,zq3,zq4,zq5]
     refine wpAnyH_take (i:=39) (v:=?_) rfl (by kernel_rfl) (by kernel_rfl) (by kernel_rfl) (fun _ _ _ h=>h) (Or.inl ⟨by rfl,?_⟩) hS ?_
     rotate_left
     · (intro w hSw;(try dsimp only at hSw);go_simp;(try with_reducible rfl))
     rotate_left
     simp only [Act.put,zq0,zq1,zq2,zq3,zq4,zq5]
     refine wpAnyH_take (i:=40) (v:=?_) rfl (by kernel_rfl) (by kernel_rfl) (by kernel_rfl) (fun _ _ _ h=>h) (Or.inl ⟨by rfl,?_⟩) hS ?_
     rotate_left
     · (intro w hSw;(try dsimp only at hSw);go_simp;(try with_reducible rfl))
     rotate_left
     simp only [Act.put,zq0,zq1,zq2,zq3,zq4,zq5]
     refine wpAnyH_take (i:=41) (v:=?_) rfl (by kernel_rfl) (by kernel_rfl) (by kernel_rfl) (fun _ _ _ h=>h) (Or.inl ⟨by rfl,?_⟩) hS ?_
     rotate_left
     · (intro w hSw;(try dsimp only at hSw);go_simp;(try with_reducible rfl))
     rotate_left
     simp only [Act.put,zq0,zq1,zq2,zq3,zq4,zq5]
     refine wpAnyH_take (i:=42) (v:=?_) rfl (by kernel_rfl) (by kernel_rfl) (by kernel_rfl) (fun _ _ _ h=>h) (Or.inl ⟨by rfl,?_⟩) hS ?_
     rotate_left
     · (intro w hSw;(try dsimp only at hSw);go_simp;(try with_reducible rfl))
     rotate_left
     simp only [Act.put,zq0,zq1,zq2,zq3,zq4,zq5]
     clear e1
     rcases Bool.eq_false_or_eq_true ((lvQ x : Int) != e) with e1 | e1
     · have hb : Hid (bv = true):=by show _ = _;rw [HBVE.out,E1.out,E2.out,E3.out,E4.out,E5.out,e1];rfl
       refine wpAnyH_take (i:=43) (v:=?_) rfl (by kernel_rfl) (by kernel_rfl) (by kernel_rfl) (fun _ _ _ h=>h) (Or.inl ⟨by rfl,?_⟩) hS ?_
       rotate_left
       · (intro w hSw;(try dsimp only at hSw);go_simp;(try with_reducible rfl))
       rotate_left
       simp only [Act.put,zq0,zq1,zq2,zq3,zq4,zq5]
       refine wpAnyH_take (i:=44) (v:=?_) rfl (by kernel_rfl) (by kernel_rfl) (by kernel_rfl) (fun _ _ _ h=>h) (Or.inl ⟨by rfl,?_⟩) hS ?_
       rotate_left
       · (intro w hSw;(try dsimp only at hSw);go_simp;(try with_reducible rfl))
       rotate_left
       simp only [Act.put,zq0,zq1,zq2,zq3,zq4,zq5]
       refine wpAnyH_take (i:=45) (v:=?_) rfl (by kernel_rfl) (by kernel_rfl) (by kernel_rfl) (fun _ _ _ h=>h) (Or.inl ⟨by rfl,?_⟩) hS ?_
       rotate_left
       · (intro w hSw;(try dsimp only at hSw);go_simp;(try with_reducible rfl))
       rotate_left
       simp only [Act.put,zq0,zq1,zq2,zq3,zq4,zq5]
       refine wpAnyH_take (i:=46) (v:=?_) rfl (by kernel_rfl) (by kernel_rfl) (by kernel_rfl) (fun _ _ _ h=>h) (Or.inr ⟨by rfl,?_⟩) hS ?_
       rotate_left
       · rfl
       rotate_left
       simp only [Act.put,zq0,zq1,zq2,zq3,zq4,zq5]
       refine wpAnyH_take (i:=47) (v:=?_) rfl (by kernel_rfl) (by kernel_rfl) (by kernel_rfl) (fun _ _ _ h=>h) (Or.inr ⟨by rfl,?_⟩) hS ?_
       rotate_left
       · rfl
       rotate_left
       simp only [Act.put,zq0,zq1,zq2,zq3,zq4,zq5]
       refine wpAnyH_take (i:=48) (v:=?_) rfl (by kernel_rfl) (by kernel_rfl) (by kernel_rfl) (fun _ _ _ h=>h) (Or.inr ⟨by rfl,?_⟩) hS ?_
       rotate_left
       · rfl
       rotate_left
       simp only [Act.put,zq0,zq1,zq2,zq3,zq4,zq5]
       refine wpAnyH_take (i:=49) (v:=?_) rfl (by kernel_rfl) (by kernel_rfl) (by kernel_rfl) (fun _ _ _ h=>h) (Or.inr ⟨by rfl,?_⟩) hS ?_
       rotate_left
       · rfl
       rotate_left
       simp only [Act.put,zq0,zq1,zq2,zq3,zq4,zq5]
       refine wpAnyH_take (i:=50) (v:=?_) rfl (by kernel_rfl) (by kernel_rfl) (by kernel_rfl) (fun _ _ _ h=>h) (Or.inr ⟨by rfl,?_⟩) hS ?_
       rotate_left
       · rfl
       rotate_left
       simp only [Act.put,zq0,zq1,zq2,zq3,zq4,zq5]
       refine wpAnyH_take (i:=51) (v:=?_) rfl (by kernel_rfl) (by kernel_rfl) (by kernel_rfl) (fun _ _ _ h=>h) (Or.inr ⟨by rfl,?_⟩) hS ?_
       rotate_left
       · rfl
       rotate_left
       simp only [Act.put,zq0,zq1,zq2,zq3,zq4,zq5]
       refine wpAnyH_take (i:=52) (v:=?_) rfl (by kernel_rfl) (by kernel_rfl) (by kernel_rfl) (fun _ _ _ h=>h) (Or.inl ⟨by rfl,?_⟩) hS ?_
       rotate_left
       · (intro w hSw;(try dsimp only at hSw);go_simp;(try with_reducible rfl))
       rotate_left
       simp only [Act.put,zq0,zq1,zq2,zq3,zq4,zq5]
       refine wpAnyH_done (by kernel_rfl) ?_ _
       have HT:=Lib.hid hS.1
       clear hS
       go_wp2_with fail
       go_meet
       exact ⟨by rw [hb.out],HT.out⟩
     have E6:=Lib.hid e1
     refine wpAnyH_take (i:=43) (v:=?_) rfl (by kernel_rfl) (by kernel_rfl) (by kernel_rfl) (fun _ _ _ h=>h) (Or.inl ⟨by rfl,?_⟩) hS ?_
     rotate_left
     · (intro w hSw;(try dsimp only at hSw);go_simp;(try with_reducible rfl))
     rotate_left
     simp only [Act.put,zq0,zq1,zq2,zq3,zq4,zq5]
     refine wpAnyH_take (i:=44) (v:=?_) rfl (by kernel_rfl) (by kernel_rfl) (by kernel_rfl) (fun _ _ _ h=>h) (Or.inl ⟨by rfl,?_⟩) hS ?_
     rotate_left
     · (intro w hSw;(try dsimp only at hSw);go_simp;(try with_reducible rfl))
     rotate_left
     simp only [Act.put,zq0,zq1,zq2,zq3,zq4,zq5]
     refine wpAnyH_take (i:=45) (v:=?_) rfl (by kernel_rfl) (by kernel_rfl) (by kernel_rfl) (fun _ _ _ h=>h) (Or.inl ⟨by rfl,?_⟩) hS ?_
     rotate_left
     · (intro w hSw;(try dsimp only at hSw);go_simp;(try with_reducible rfl))
     rotate_left
     simp only [Act.put,zq0,zq1,zq2,zq3,zq4,zq5]
     refine wpAnyH_take (i:=46) (v:=?_) rfl (by kernel_rfl) (by kernel_rfl) (by kernel_rfl) (fun _ _ _ h=>h) (Or.inl ⟨by rfl,?_⟩) hS ?_
     rotate_left
     · (intro w hSw;(try dsimp only at hSw);go_simp;(try with_reducible rfl))
     rotate_left
     simp only [Act.put,zq0,zq1,zq2,zq3,zq4,zq5]
     refine wpAnyH_take (i:=47) (v:=?_) rfl (by kernel_rfl) (by kernel_rfl) (by kernel_rfl) (fun _ _ _ h=>h) (Or.inl ⟨by rfl,?_⟩) hS ?_
     rotate_left
     · (intro w hSw;(try dsimp only at hSw);go_simp;(try with_reducible rfl))
     rotate_left
     simp only [Act.put,zq0,zq1,zq2,zq3,zq4,zq5]
     clear e1
     rcases Bool.eq_false_or_eq_true (lvU x) with e1 | e1
     · have hb : Hid (bv = !ss):=by show _ = _;rw [HBVE.out,E1.out,E2.out,E3.out,E4.out,E5.out,E6.out,e1];simp
       refine wpAnyH_take (i:=48) (v:=?_) rfl (by kernel_rfl) (by kernel_rfl) (by kernel_rfl) (fun _ _ _ h=>h) (Or.inl ⟨by rfl,?_⟩) hS ?_
       rotate_left
       · (intro w hSw;(try dsimp only at hSw);go_simp;(try with_reducible rfl))
       rotate_left
       simp only [Act.put,zq0,zq1,zq2,zq3,zq4,zq5]
       refine wpAnyH_take (i:=49) (v:=?_) rfl (by kernel_rfl) (by kernel_rfl) (by kernel_rfl) (fun _ _ _ h=>h) (Or.inl ⟨by rfl,?_⟩) hS ?_
       rotate_left
       · (intro w hSw;(try dsimp only at hSw);go_simp;(try with_reducible rfl))
       rotate_left
       simp only [Act.put,zq0,zq1,zq2,zq3,zq4,zq5]
       refine wpAnyH_take (i:=50) (v:=?_) rfl (by kernel_rfl) (by kernel_rfl) (by kernel_rfl) (fun _ _ _ h=>h) (Or.inl ⟨by rfl,?_⟩) hS ?_
       rotate_left
       · (intro w hSw;(try dsimp only at hSw);go_simp;(try with_reducible rfl))
       rotate_left
       simp only [Act.put,zq0,zq1,zq2,zq3,zq4,zq5]
       refine wpAnyH_take (i:=51) (v:=?_) rfl (by kernel_rfl) (by kernel_rfl) (by kernel_rfl) (fun _ _ _ h=>h) (Or.inl ⟨by rfl,?_⟩) hS ?_
       rotate_left
       · (intro w hSw;(try dsimp only at hSw);go_simp;(try with_reducible rfl))
       rotate_left
       simp only [Act.put,zq0,zq1,zq2,zq3,zq4,zq5]
       refine wpAnyH_take (i:=52) (v:=?_) rfl (by kernel_rfl) (by kernel_rfl) (by kernel_rfl) (fun _ _ _ h=>h) (Or.inl ⟨by rfl,?_⟩) hS ?_
       rotate_left
       · (intro w hSw;(try dsimp only at hSw);go_simp;(try with_reducible rfl))
       rotate_left
       simp only [Act.put,zq0,zq1,zq2,zq3,zq4,zq5]
       refine wpAnyH_done (by kernel_rfl) ?_ _
       have HT:=Lib.hid hS.1
       clear hS
       go_wp2_with fail
       go_meet
       exact ⟨by rw [hb.out],HT.out⟩
     · have hb : Hid (bv = false):=by show _ = _;rw [HBVE.out,E1.out,E2.out,E3.out,E4.out,E5.out,E6.out,e1];rfl
       refine wpAnyH_take (i:=48) (v:=?_) rfl (by kernel_rfl) (by kernel_rfl) (by kernel_rfl) (fun _ _ _ h=>h) (Or.inl ⟨by rfl,?_⟩) hS ?_
       rotate_left
       · (intro w hSw;(try dsimp only at hSw);go_simp;(try with_reducible rfl))
       rotate_left
       simp only [Act.put,zq0,zq1,zq2,zq3,zq4,zq5]
       refine wpAnyH_take (i:=49) (v:=?_) rfl (by kernel_rfl) (by kernel_rfl) (by kernel_rfl) (fun _ _ _ h=>h) (Or.inr ⟨by rfl,?_⟩) hS ?_
       rotate_left
       · rfl
       rotate_left
       simp only [Act.put,zq0,zq1,zq2,zq3,zq4,zq5]
       refine wpAnyH_take (i:=50) (v:=?_) rfl (by kernel_rfl) (by kernel_rfl) (by kernel_rfl) (fun _ _ _ h=>h) (Or.inr ⟨by rfl,?_⟩) hS ?_
       rotate_left
       · rfl
       rotate_left
       simp only [Act.put,zq0,zq1,zq2,zq3,zq4,zq5]
       refine wpAnyH_take (i:=51) (v:=?_) rfl (by kernel_rfl) (by kernel_rfl) (by kernel_rfl) (fun _ _ _ h=>h) (Or.inl ⟨by rfl,?_⟩) hS ?_
       rotate_left
       · (intro w hSw;(try dsimp only at hSw);go_simp;(try with_reducible rfl))
       rotate_left
       simp only [Act.put,zq0,zq1,zq2,zq3,zq4,zq5]
       refine wpAnyH_take (i:=52) (v:=?_) rfl (by kernel_rfl) (by kernel_rfl) (by kernel_rfl) (fun _ _ _ h=>h) (Or.inl ⟨by rfl,?_⟩) hS ?_
       rotate_left
       · (intro w hSw;(try dsimp only at hSw);go_simp;(try with_reducible rfl))
       rotate_left
       simp only [Act.put,zq0,zq1,zq2,zq3,zq4,zq5]
       refine wpAnyH_done (by kernel_rfl) ?_ _
       have HT:=Lib.hid hS.1
       clear hS
       go_wp2_with fail
       go_meet
       exact ⟨by rw [hb.out],HT.out⟩
    case rest=>
    obtain ⟨rfl,b9⟩:=hcut
    have G2:=G1.next b9
    have b8:=Ext.trans bA b9
    have HT8:=Lib.hid (Ext.trans t3 b8)
    have z2:=G2.cell
    clear HW1 HW2 BR1 G1 b9 bA
    cases bv with
    | true=>
      have HL0 : Hid (lb = false):=by
       have h1 : lvF st nd gq n ls 0 0 true = none:=by
        rw [HALL.out,HST.out]
        refine lvF_none _ _ _ _ _ _ _ _ _ ?_
        rw [HS2.out,if_pos HBV.out.symm]
       show _ = _
       rw [HLB3.out,h1]
      go_wp2
      go_ret
      exact ⟨by have h:=HL0.out;rw [h];try rfl,HT8.out⟩
    | false=>
      have hb0 : 2 ≤ lvN x ∧ lvN x ≤ nd:=by
       have h1:=HBVE.out
       constructor
       · rcases Bool.eq_false_or_eq_true (decide (lvN x < 2)) with h2 | h2
         · rw [h2] at h1;simp at h1
         · have:=of_decide_eq_false h2;omega
       · rcases Bool.eq_false_or_eq_true (decide (nd < lvN x)) with h2 | h2
         · rw [h2] at h1;simp at h1
         · have:=of_decide_eq_false h2;omega
      have HU:=Lib.hid (IntWalk.wrap64_in (uu + lvN x) (by have:=HUU.out;have:=HND.out;have:=HN9.out;omega))
      have hu:=HU.out
      have HF2 : Hid (lvF st nd gq n (ls.take (j + 1)) 0 0 true = some (uu + lvN x,lvU x) ∧ 0 ≤ uu + lvN x ∧ uu + lvN x ≤ 20 * ((j + 1 : Nat) : Int)):=by
       refine ⟨?_,by have:=HUU.out;omega,by have:=HUU.out;have:=HND.out;omega⟩
       rw [HST.out,HS2.out,if_neg (by rw [← HBV.out];exact Bool.false_ne_true)]
      have HLT:=Lib.hid hlt
      have HB8:=Lib.hid b8
      clear hb0 b8 hlt
      go_wp2
      go_roundw
      case rel=>exact ⟨j + 1,uu + lvN x,lvU x,by first | rfl | rw [hu],rfl,by first | rfl | (rw [HWJ];rfl),HLT.out,HF2,HB8.out⟩
      case measure=>first | exact round_less HWJ HLT.out | (have h:=HLT.out;simp [intOf];omega)
  · have hjn : j = n:=by omega
    have hall : ls.take j = ls:=List.take_of_length_le (by have:=HNL.out;omega)
    have HF1 : Hid (lvF st nd gq n ls 0 0 true = some (uu,ss)):=by
     have h1:=HF.out.1
     rw [hall] at h1
     exact h1
    have HLB4 : Hid (lb = ((uu == gu) && (decide (n < gq) && (homesB ls && roomB m l gu ls)))):=by
     show _ = _
     rw [HLB3.out,HF1.out]
    have B5:=HBW.out.next bj
    have t5:=Ext.trans t3 bj
    have HR5:=Lib.hid (HRW.out.below bj)
    have HH5:=Lib.hid (fun (w : World) (hb : BoxOf w gR #[.int .u32 (ga : Int),.int .u32 (gq : Int),.int .i64 gt,.int .i64 gu,.slice L n lc,.int .u32 (id : Int),.int .i64 m,.int .i64 c,.int .i64 r,.int .i64 l,.int .i64 h] 120) (hr : RdIn w S (.sl LvTy) ls [.slice L n lc])=>HHM.out w (by have:=HN9.out;omega) hb hr)
    have HR6:=Lib.hid (fun (w : World) (hb : BoxOf w gR #[.int .u32 (ga : Int),.int .u32 (gq : Int),.int .i64 gt,.int .i64 gu,.slice L n lc,.int .u32 (id : Int),.int .i64 m,.int .i64 c,.int .i64 r,.int .i64 l,.int .i64 h] 120) (hr : RdIn w S (.sl LvTy) ls [.slice L n lc])=>HRM.out w (by have:=HN9.out;omega) hb hr)
    have HGQ:=Lib.hid HQQ.out.2
    have hgq : IntKind.i64.wrap (gq : Int) = (gq : Int):=IntWalk.i64_in _ (by have:=HQQ.out.2;omega)
    obtain ⟨hv,hhv⟩ : ∃ z : Bool,z = homesB ls:=⟨_,rfl⟩
    obtain ⟨rv,hrv⟩ : ∃ z : Bool,z = roomB m l gu ls:=⟨_,rfl⟩
    rw [← hhv] at HLB4 HH5
    rw [← hrv] at HLB4 HR6
    clear hhv hrv HF1 HLB3 HHM HRM HF hall HRW HBW t3 bj HR HNL HNM HII HQQ HXB B3 HSN HND
    clear hjn
    go_upto_region 14 with fail
    clear hj hlt
    as_aux_lemma=>
    refine wp_region_held_drew (S:=fun w'=>Below wr.heap.size wr w' ∧ ∀ o,w'.cell? ⟨gR,o,none⟩ = (#[.int .u32 (ga : Int),.int .u32 (gq : Int),.int .i64 gt,.int .i64 gu,.slice L n lc,.int .u32 (id : Int),.int .i64 m,.int .i64 c,.int .i64 r,.int .i64 l,.int .i64 h] : Array Value).toList[o]?) (by kernel_rfl) ⟨Ext.drew (Below.refl _ _),B5.drew.cell⟩ (fun hS=>?_)
    refine wpAnyH_take (i:=0) (v:=?_) rfl (by kernel_rfl) (by kernel_rfl) (by kernel_rfl) (fun _ _ _ h=>h) (Or.inl ⟨by rfl,?_⟩) hS ?_
    rotate_left
    · (intro w hSw;(try dsimp only at hSw);go_simp;(try with_reducible rfl))
    rotate_left
    simp only [Act.put,zq0,zq1,zq2,zq3,zq4,zq5]
    refine wpAnyH_take (i:=1) (v:=?_) rfl (by kernel_rfl) (by kernel_rfl) (by kernel_rfl) (fun _ _ _ h=>h) (Or.inl ⟨by rfl,?_⟩) hS ?_
    rotate_left
    · (intro w hSw;(try dsimp only at hSw);go_simp;(try with_reducible rfl))
    rotate_left
    simp only [Act.put,zq0,zq1,zq2,zq3,zq4,zq5]
    refine wpAnyH_take (i:=2) (v:=?_) rfl (by kernel_rfl) (by kernel_rfl) (by kernel_rfl) (fun _ _ _ h=>h) (Or.inl ⟨by rfl,?_⟩) hS ?_
    rotate_left
    · (intro w hSw;(try dsimp only at hSw);go_simp;(try with_reducible rfl))
    rotate_left
    simp only [Act.put,zq0,zq1,zq2,zq3,zq4,zq5]
    refine wpAnyH_take (i:=3) (v:=?_) rfl (by kernel_rfl) (by kernel_rfl) (by kernel_rfl) (fun _ _ _ h=>h) (Or.inl ⟨by rfl,?_⟩) hS ?_
    rotate_left
    · (intro w hSw;(try dsimp only at hSw);go_simp;(try with_reducible rfl))
    rotate_left
    simp only [Act.put,zq0,zq1,zq2,zq3,zq4,zq5]
    refine wpAnyH_take (i:=4) (v:=?_) rfl (by kernel_rfl) (by kernel_rfl) (by kernel_rfl) (fun _ _ _ h=>h) (Or.inl ⟨by rfl,?_⟩) hS ?_
    rotate_left
    · (intro w hSw;(try dsimp only at hSw);go_simp;(try with_reducible rfl))
    rotate_left
    simp only [Act.put,zq0,zq1,zq2,zq3,zq4,zq5]
    refine wpAnyH_take (i:=5) (v:=?_) rfl (by kernel_rfl) (by kernel_rfl) (by kernel_rfl) (fun _ _ _ h=>h) (Or.inl ⟨by rfl,?_⟩) hS ?_
    rotate_left
    · (intro w hSw;(try dsimp only at hSw);go_simp;(try with_reducible rfl))
    rotate_left
    simp only [Act.put,zq0,zq1,zq2,zq3,zq4,zq5]
    rcases Bool.eq_false_or_eq_true (uu == gu) with e1 | e1
    rotate_left
    · have hb : Hid (lb = false):=by show _ = _;rw [HLB4.out,e1];rfl
      refine wpAnyH_take (i:=6) (v:=?_) rfl (by kernel_rfl) (by kernel_rfl) (by kernel_rfl) (fun _ _ _ h=>h) (Or.inl ⟨by rfl,?_⟩) hS ?_
      rotate_left
      · (intro w hSw;(try dsimp only at hSw);go_simp;(try with_reducible rfl))
      rotate_left
      simp only [Act.put,zq0,zq1,zq2,zq3,zq4,zq5]
      refine wpAnyH_take (i:=7) (v:=?_) rfl (by kernel_rfl) (by kernel_rfl) (by kernel_rfl) (fun _ _ _ h=>h) (Or.inl ⟨by rfl,?_⟩) hS ?_
      rotate_left
      · (intro w hSw;(try dsimp only at hSw);go_simp;(try with_reducible rfl))
      rotate_left
      simp only [Act.put,zq0,zq1,zq2,zq3,zq4,zq5]
      refine wpAnyH_take (i:=8) (v:=?_) rfl (by kernel_rfl) (by kernel_rfl) (by kernel_rfl) (fun _ _ _ h=>h) (Or.inr ⟨by rfl,?_⟩) hS ?_
      rotate_left
      · rfl
      rotate_left
      simp only [Act.put,zq0,zq1,zq2,zq3,zq4,zq5]
      refine wpAnyH_take (i:=9) (v:=?_) rfl (by kernel_rfl) (by kernel_rfl) (by kernel_rfl) (fun _ _ _ h=>h) (Or.inr ⟨by rfl,?_⟩) hS ?_
      rotate_left
      · rfl
      rotate_left
      simp only [Act.put,zq0,zq1,zq2,zq3,zq4,zq5]
      refine wpAnyH_take (i:=10) (v:=?_) rfl (by kernel_rfl) (by kernel_rfl) (by kernel_rfl) (fun _ _ _ h=>h) (Or.inr ⟨by rfl,?_⟩) hS ?_
      rotate_left
      · rfl
      rotate_left
      simp only [Act.put,zq0,zq1,zq2,zq3,zq4,zq5]
      refine wpAnyH_take (i:=11) (v:=?_) rfl (by kernel_rfl) (by kernel_rfl) (by kernel_rfl) (fun _ _ _ h=>h) (Or.inr ⟨by rfl,?_⟩) hS ?_
      rotate_left
      · rfl
      rotate_left
      simp only [Act.put,zq0,zq1,zq2,zq3,zq4,zq5]
      refine wpAnyH_take (i:=12) (v:=?_) rfl (by kernel_rfl) (by kernel_rfl) (by kernel_rfl) (fun _ _ _ h=>h) (Or.inr ⟨by rfl,?_⟩) hS ?_
      rotate_left
      · rfl
      rotate_left
      simp only [Act.put,zq0,zq1,zq2,zq3,zq4,zq5]
      refine wpAnyH_take (i:=13) (v:=?_) rfl (by kernel_rfl) (by kernel_rfl) (by kernel_rfl) (fun _ _ _ h=>h) (Or.inr ⟨by rfl,?_⟩) hS ?_
      rotate_left
      · rfl
      rotate_left
      simp only [Act.put,zq0,zq1,zq2,zq3,zq4,zq5]
      refine wpAnyH_take (i:=14) (v:=?_) rfl (by kernel_rfl) (by kernel_rfl) (by kernel_rfl) (fun _ _ _ h=>h) (Or.inr ⟨by rfl,?_⟩) hS ?_
      rotate_left
      · rfl
      rotate_left
      simp only [Act.put,zq0,zq1,zq2,zq3,zq4,zq5]
      refine wpAnyH_take (i:=15) (v:=?_) rfl (by kernel_rfl) (by kernel_rfl) (by kernel_rfl) (fun _ _ _ h=>h) (Or.inr ⟨by rfl,?_⟩) hS ?_
      rotate_left
      · rfl
      rotate_left
      simp only [Act.put,zq0,zq1,zq2,zq3,zq4,zq5]
      refine wpAnyH_take (i:=16) (v:=?_) rfl (by kernel_rfl) (by kernel_rfl) (by kernel_rfl) (fun _ _ _ h=>h) (Or.inr ⟨by rfl,?_⟩) hS ?_
      rotate_left
      · rfl
      rotate_left
      simp only [Act.put,zq0,zq1,zq2,zq3,zq4,zq5]
      refine wpAnyH_take (i:=17) (v:=?_) rfl (by kernel_rfl) (by kernel_rfl) (by kernel_rfl) (fun _ _ _ h=>h) (Or.inr ⟨by rfl,?_⟩) hS ?_
      rotate_left
      · rfl
      rotate_left
      simp only [Act.put,zq0,zq1,zq2,zq3,zq4,zq5]
      refine wpAnyH_take (i:=18) (v:=?_) rfl (by kernel_rfl) (by kernel_rfl) (by kernel_rfl) (fun _ _ _ h=>h) (Or.inr ⟨by rfl,?_⟩) hS ?_
      rotate_left
      · rfl
      rotate_left
      simp only [Act.put,zq0,zq1,zq2,zq3,zq4,zq5]
      refine wpAnyH_take (i:=19) (v:=?_) rfl (by kernel_rfl) (by kernel_rfl) (by kernel_rfl) (fun _ _ _ h=>h) (Or.inr ⟨by rfl,?_⟩) hS ?_
      rotate_left
      · rfl
      rotate_left
      simp only [Act.put,zq0,zq1,zq2,zq3,zq4,zq5]
      refine wpAnyH_take (i:=20) (v:=?_) rfl (by kernel_rfl) (by kernel_rfl) (by kernel_rfl) (fun _ _ _ h=>h) (Or.inr ⟨by rfl,?_⟩) hS ?_
      rotate_left
      · rfl
      rotate_left
      simp only [Act.put,zq0,zq1,zq2,zq3,zq4,zq5]
      refine wpAnyH_take (i:=21) (v:=?_) rfl (by kernel_rfl) (by kernel_rfl) (by kernel_rfl) (fun _ _ _ h=>h) (Or.inl ⟨by rfl,?_⟩) hS ?_
      rotate_left
      · (intro w hSw;(try dsimp only at hSw);go_simp;(try with_reducible rfl))
      rotate_left
      simp only [Act.put,zq0,zq1,zq2,zq3,zq4,zq5]
      refine wpAnyH_take (i:=22) (v:=?_) rfl (by kernel_rfl) (by kernel_rfl) (by kernel_rfl) (fun _ _ _ h=>h) (Or.inl ⟨by rfl,?_⟩) hS ?_
      rotate_left
      · (intro w hSw;(try dsimp only at hSw);go_simp;(try with_reducible rfl))
      rotate_left
      simp only [Act.put,zq0,zq1,zq2,zq3,zq4,zq5]
      refine wpAnyH_take (i:=23) (v:=?_) rfl (by kernel_rfl) (by kernel_rfl) (by kernel_rfl) (fun _ _ _ h=>h) (Or.inr ⟨by rfl,?_⟩) hS ?_
      rotate_left
      · rfl
      rotate_left
      simp only [Act.put,zq0,zq1,zq2,zq3,zq4,zq5]
      refine wpAnyH_take (i:=24) (v:=?_) rfl (by kernel_rfl) (by kernel_rfl) (by kernel_rfl) (fun _ _ _ h=>h) (Or.inr ⟨by rfl,?_⟩) hS ?_
      rotate_left
      · rfl
      rotate_left
      simp only [Act.put,zq0,zq1,zq2,zq3,zq4,zq5]
      refine wpAnyH_take (i:=25) (v:=?_) rfl (by kernel_rfl) (by kernel_rfl) (by kernel_rfl) (fun _ _ _ h=>h) (Or.inl ⟨by rfl,?_⟩) hS ?_
      rotate_left
      · (intro w hSw;(try dsimp only at hSw);go_simp;(try with_reducible rfl))
      rotate_left
      simp only [Act.put,zq0,zq1,zq2,zq3,zq4,zq5]
      refine wpAnyH_take (i:=26) (v:=?_) rfl (by kernel_rfl) (by kernel_rfl) (by kernel_rfl) (fun _ _ _ h=>h) (Or.inl ⟨by rfl,?_⟩) hS ?_
      rotate_left
      · (intro w hSw;(try dsimp only at hSw);go_simp;(try with_reducible rfl))
      rotate_left
      simp only [Act.put,zq0,zq1,zq2,zq3,zq4,zq5]
      refine wpAnyH_take (i:=27) (v:=?_) rfl (by kernel_rfl) (by kernel_rfl) (by kernel_rfl) (fun _ _ _ h=>h) (Or.inr ⟨by rfl,?_⟩) hS ?_
      rotate_left
      · rfl
      rotate_left
      simp only [Act.put,zq0,zq1,zq2,zq3,zq4,zq5]
      refine wpAnyH_take (i:=28) (v:=?_) rfl (by kernel_rfl) (by kernel_rfl) (by kernel_rfl) (fun _ _ _ h=>h) (Or.inr ⟨by rfl,?_⟩) hS ?_
      rotate_left
      · rfl
      rotate_left
      simp only [Act.put,zq0,zq1,zq2,zq3,zq4,zq5]
      refine wpAnyH_take (i:=29) (v:=?_) rfl (by kernel_rfl) (by kernel_rfl) (by kernel_rfl) (fun _ _ _ h=>h) (Or.inl ⟨by rfl,?_⟩) hS ?_
      rotate_left
      · (intro w hSw;(try dsimp only at hSw);go_simp;(try with_reducible rfl))
      rotate_left
      simp only [Act.put,zq0,zq1,zq2,zq3,zq4,zq5]
      refine wpAnyH_take (i:=30) (v:=?_) rfl (by kernel_rfl) (by kernel_rfl) (by kernel_rfl) (fun _ _ _ h=>h) (Or.inl ⟨by rfl,?_⟩) hS ?_
      rotate_left
      · (intro w hSw;(try dsimp only at hSw);go_simp;(try with_reducible rfl))
      rotate_left
      simp only [Act.put,zq0,zq1,zq2,zq3,zq4,zq5]
      refine wpAnyH_done (by kernel_rfl) ?_ _
      have HT:=Lib.hid (Ext.trans t5 hS.1)
      clear hS
      go_wp2
      go_ret
      exact ⟨by have h:=hb.out;rw [h];try rfl,HT.out⟩
    have E1:=Lib.hid e1
    refine wpAnyH_take (i:=6) (v:=?_) rfl (by kernel_rfl) (by kernel_rfl) (by kernel_rfl) (fun _ _ _ h=>h) (Or.inl ⟨by rfl,?_⟩) hS ?_
    rotate_left
    · (intro w hSw;(try dsimp only at hSw);go_simp;(try with_reducible rfl))
    rotate_left
    simp only [Act.put,zq0,zq1,zq2,zq3,zq4,zq5]
    refine wpAnyH_take (i:=7) (v:=?_) rfl (by kernel_rfl) (by kernel_rfl) (by kernel_rfl) (fun _ _ _ h=>h) (Or.inl ⟨by rfl,?_⟩) hS ?_
    rotate_left
    · (intro w hSw;(try dsimp only at hSw);go_simp;(try with_reducible rfl))
    rotate_left
    simp only [Act.put,zq0,zq1,zq2,zq3,zq4,zq5]
    refine wpAnyH_take (i:=8) (v:=?_) rfl (by kernel_rfl) (by kernel_rfl) (by kernel_rfl) (fun _ _ _ h=>h) (Or.inl ⟨by rfl,?_⟩) hS ?_
    rotate_left
    · (intro w hSw;(try dsimp only at hSw);go_simp;(try with_reducible rfl))
    rotate_left
    simp only [Act.put,zq0,zq1,zq2,zq3,zq4,zq5]
    refine wpAnyH_take (i:=9) (v:=?_) rfl (by kernel_rfl) (by kernel_rfl) (by kernel_rfl) (fun _ _ _ h=>h) (Or.inl ⟨by rfl,?_⟩) hS ?_
    rotate_left
    · (intro w hSw;(try dsimp only at hSw);go_simp;(try with_reducible rfl))
    rotate_left
    simp only [Act.put,zq0,zq1,zq2,zq3,zq4,zq5]
    refine wpAnyH_take (i:=10) (v:=?_) rfl (by kernel_rfl) (by kernel_rfl) (by kernel_rfl) (fun _ _ _ h=>h) (Or.inl ⟨by rfl,?_⟩) hS ?_
    rotate_left
    · (intro w hSw;(try dsimp only at hSw);go_simp;(try with_reducible rfl))
    rotate_left
    simp only [Act.put,zq0,zq1,zq2,zq3,zq4,zq5]
    refine wpAnyH_take (i:=11) (v:=?_) rfl (by kernel_rfl) (by kernel_rfl) (by kernel_rfl) (fun _ _ _ h=>h) (Or.inl ⟨by rfl,?_⟩) hS ?_
    rotate_left
    · (intro w hSw;(try dsimp only at hSw);go_simp;(try with_reducible rfl))
    rotate_left
    simp only [Act.put,zq0,zq1,zq2,zq3,zq4,zq5]
    refine wpAnyH_take (i:=12) (v:=?_) rfl (by kernel_rfl) (by kernel_rfl) (by kernel_rfl) (fun _ _ _ h=>h) (Or.inl ⟨by rfl,?_⟩) hS ?_
    rotate_left
    · (intro w hSw;(try dsimp only at hSw);go_simp;(try with_reducible rfl))
    rotate_left
    simp only [Act.put,zq0,zq1,zq2,zq3,zq4,zq5]
    refine wpAnyH_take (i:=13) (v:=?_) rfl (by kernel_rfl) (by kernel_rfl) (by kernel_rfl) (fun _ _ _ h=>h) (Or.inl ⟨by rfl,?_⟩) hS ?_
    rotate_left
    · (intro w hSw;(try dsimp only at hSw);go_simp;(try with_reducible rfl))
    rotate_left
    simp only [Act.put,zq0,zq1,zq2,zq3,zq4,zq5]
    refine wpAnyH_take (i:=14) (v:=?_) rfl (by kernel_rfl) (by kernel_rfl) (by kernel_rfl) (fun _ _ _ h=>h) (Or.inl ⟨by rfl,?_⟩) hS ?_
    rotate_left
    · (intro w hSw;(try dsimp only at hSw);go_simp;(try with_reducible rfl))
    rotate_left
    simp only [Act.put,zq0,zq1,zq2,zq3,zq4,zq5]
    refine wpAnyH_take (i:=15) (v:=?_) rfl (by kernel_rfl) (by kernel_rfl) (by kernel_rfl) (fun _ _ _ h=>h) (Or.inl ⟨by rfl,?_⟩) hS ?_
    rotate_left
    · (intro w hSw;(try dsimp only at hSw);go_simp;(try with_reducible rfl))
    rotate_left
    simp only [Act.put,zq0,zq1,zq2,zq3,zq4,zq5]
    refine wpAnyH_take (i:=16) (v:=?_) rfl (by kernel_rfl) (by kernel_rfl) (by kernel_rfl) (fun _ _ _ h=>h) (Or.inl ⟨by rfl,?_⟩) hS ?_
    rotate_left
    · (intro w hSw;(try dsimp only at hSw);go_simp;(try with_reducible rfl))
    rotate_left
    simp only [Act.put,zq0,zq1,zq2,zq3,zq4,zq5]
    refine wpAnyH_take (i:=17) (v:=?_) rfl (by kernel_rfl) (by kernel_rfl) (by kernel_rfl) (fun _ _ _ h=>h) (Or.inl ⟨by rfl,?_⟩) hS ?_
    rotate_left
    · (intro w hSw;(try dsimp only at hSw);go_simp;(try with_reducible rfl))
    rotate_left
    simp only [Act.put,zq0,zq1,zq2,zq3,zq4,zq5]
    refine wpAnyH_take (i:=18) (v:=?_) rfl (by kernel_rfl) (by kernel_rfl) (by kernel_rfl) (fun _ _ _ h=>h) (Or.inl ⟨by rfl,?_⟩) hS ?_
    rotate_left
    · (intro w hSw;(try dsimp only at hSw);go_simp;(try with_reducible rfl))
    rotate_left
    simp only [Act.put,zq0,zq1,zq2,zq3,zq4,zq5]
    refine wpAnyH_take (i:=19) (v:=?_) rfl (by kernel_rfl) (by kernel_rfl) (by kernel_rfl) (fun _ _ _ h=>h) (Or.inl ⟨by rfl,?_⟩) hS ?_
    rotate_left
    · (intro w hSw;(try dsimp only at hSw);go_simp;(try with_reducible rfl))
    rotate_left
    simp only [Act.put,zq0,zq1,zq2,zq3,zq4,zq5]
    clear e1
    rcases Bool.eq_false_or_eq_true (decide (n < gq)) with e2 | e2
    rotate_left
    · have hb : Hid (lb = false):=by show _ = _;rw [HLB4.out,E1.out,e2];rfl
      have e3 : decide ((n : Int) < (gq : Int)) = false:=decide_eq_false (by have:=of_decide_eq_false e2;omega)
      refine wpAnyH_take (i:=20) (v:=?_) rfl (by kernel_rfl) (by kernel_rfl) (by kernel_rfl) (fun _ _ _ h=>h) (Or.inl ⟨by rfl,?_⟩) hS ?_
      rotate_left
      · (intro w hSw;(try dsimp only at hSw);go_simp;(try with_reducible rfl))
      rotate_left
      simp only [Act.put,zq0,zq1,zq2,zq3,zq4,zq5]
      refine wpAnyH_take (i:=21) (v:=?_) rfl (by kernel_rfl) (by kernel_rfl) (by kernel_rfl) (fun _ _ _ h=>h) (Or.inl ⟨by rfl,?_⟩) hS ?_
      rotate_left
      · (intro w hSw;(try dsimp only at hSw);go_simp;(try with_reducible rfl))
      rotate_left
      simp only [Act.put,zq0,zq1,zq2,zq3,zq4,zq5]
      refine wpAnyH_take (i:=22) (v:=?_) rfl (by kernel_rfl) (by kernel_rfl) (by kernel_rfl) (fun _ _ _ h=>h) (Or.inl ⟨by rfl,?_⟩) hS ?_
      rotate_left
      · (intro w hSw;(try dsimp only at hSw);go_simp;(try with_reducible rfl))
      rotate_left
      simp only [Act.put,zq0,zq1,zq2,zq3,zq4,zq5]
      refine wpAnyH_take (i:=23) (v:=?_) rfl (by kernel_rfl) (by kernel_rfl) (by kernel_rfl) (fun _ _ _ h=>h) (Or.inr ⟨by rfl,?_⟩) hS ?_
      rotate_left
      · rfl
      rotate_left
      simp only [Act.put,zq0,zq1,zq2,zq3,zq4,zq5]
      refine wpAnyH_take (i:=24) (v:=?_) rfl (by kernel_rfl) (by kernel_rfl) (by kernel_rfl) (fun _ _ _ h=>h) (Or.inr ⟨by rfl,?_⟩) hS ?_
      rotate_left
      · rfl
      rotate_left
      simp only [Act.put,zq0,zq1,zq2,zq3,zq4,zq5]
      refine wpAnyH_take (i:=25) (v:=?_) rfl (by kernel_rfl) (by kernel_rfl) (by kernel_rfl) (fun _ _ _ h=>h) (Or.inl ⟨by rfl,?_⟩) hS ?_
      rotate_left
      · (intro w hSw;(try dsimp only at hSw);go_simp;(try with_reducible rfl))
      rotate_left
      simp only [Act.put,zq0,zq1,zq2,zq3,zq4,zq5]
      refine wpAnyH_take (i:=26) (v:=?_) rfl (by kernel_rfl) (by kernel_rfl) (by kernel_rfl) (fun _ _ _ h=>h) (Or.inl ⟨by rfl,?_⟩) hS ?_
      rotate_left
      · (intro w hSw;(try dsimp only at hSw);go_simp;(try with_reducible rfl))
      rotate_left
      simp only [Act.put,zq0,zq1,zq2,zq3,zq4,zq5]
      refine wpAnyH_take (i:=27) (v:=?_) rfl (by kernel_rfl) (by kernel_rfl) (by kernel_rfl) (fun _ _ _ h=>h) (Or.inr ⟨by rfl,?_⟩) hS ?_
      rotate_left
      · rfl
      rotate_left
      simp only [Act.put,zq0,zq1,zq2,zq3,zq4,zq5]
      refine wpAnyH_take (i:=28) (v:=?_) rfl (by kernel_rfl) (by kernel_rfl) (by kernel_rfl) (fun _ _ _ h=>h) (Or.inr ⟨by rfl,?_⟩) hS ?_
      rotate_left
      · rfl
      rotate_left
      simp only [Act.put,zq0,zq1,zq2,zq3,zq4,zq5]
      refine wpAnyH_take (i:=29) (v:=?_) rfl (by kernel_rfl) (by kernel_rfl) (by kernel_rfl) (fun _ _ _ h=>h) (Or.inl ⟨by rfl,?_⟩) hS ?_
      rotate_left
      · (intro w hSw;(try dsimp only at hSw);go_simp;(try with_reducible rfl))
      rotate_left
      simp only [Act.put,zq0,zq1,zq2,zq3,zq4,zq5]
      refine wpAnyH_take (i:=30) (v:=?_) rfl (by kernel_rfl) (by kernel_rfl) (by kernel_rfl) (fun _ _ _ h=>h) (Or.inl ⟨by rfl,?_⟩) hS ?_
      rotate_left
      · (intro w hSw;(try dsimp only at hSw);go_simp;(try with_reducible rfl))
      rotate_left
      simp only [Act.put,zq0,zq1,zq2,zq3,zq4,zq5]
      refine wpAnyH_done (by kernel_rfl) ?_ _
      have HT:=Lib.hid (Ext.trans t5 hS.1)
      clear hS
      go_wp2
      go_ret
      exact ⟨by have h:=hb.out;rw [h];try rfl,HT.out⟩
    have E2:=Lib.hid e2
    have e3 : decide ((n : Int) < (gq : Int)) = true:=decide_eq_true (by have:=of_decide_eq_true e2;omega)
    refine wpAnyH_take (i:=20) (v:=?_) rfl (by kernel_rfl) (by kernel_rfl) (by kernel_rfl) (fun _ _ _ h=>h) (Or.inl ⟨by rfl,?_⟩) hS ?_
    rotate_left
    · (intro w hSw;(try dsimp only at hSw);go_simp;(try with_reducible rfl))
    rotate_left
    simp only [Act.put,zq0,zq1,zq2,zq3,zq4,zq5]
    refine wpAnyH_take (i:=21) (v:=?_) rfl (by kernel_rfl) (by kernel_rfl) (by kernel_rfl) (fun _ _ _ h=>h) (Or.inl ⟨by rfl,?_⟩) hS ?_
    rotate_left
    · (intro w hSw;(try dsimp only at hSw);go_simp;(try with_reducible rfl))
    rotate_left
    simp only [Act.put,zq0,zq1,zq2,zq3,zq4,zq5]
    refine wpAnyH_take (i:=22) (v:=?_) rfl (by kernel_rfl) (by kernel_rfl) (by kernel_rfl) (fun _ _ _ h=>h) (Or.inl ⟨by rfl,?_⟩) hS ?_
    rotate_left
    · (intro w hSw;(try dsimp only at hSw);go_simp;(try with_reducible rfl))
    rotate_left
    simp only [Act.put,zq0,zq1,zq2,zq3,zq4,zq5]
    refine wpAnyH_take (i:=23) (v:=?_) rfl (by kernel_rfl) (by kernel_rfl) (by kernel_rfl) (fun _ _ _ h=>h) (Or.inl ⟨by rfl,?_⟩) hS ?_
    rotate_left
    · (intro w hSw;(try dsimp only at hSw);go_simp;(try with_reducible rfl))
    rotate_left
    simp only [Act.put,zq0,zq1,zq2,zq3,zq4,zq5]
    clear e2 e3
    refine wpAnyH_ready (rs:=[24]) (by kernel_rfl) (by simp) ?_
    refine AllReadyH.cons rfl (fun K hK=>?_) AllReadyH.nil
    rw [if_pos (by rfl)]
    go_simp
    refine (HH5.out _ (B5.next hS.1) (HR5.out.below hS.1)).mono ?_
    rintro e w3 ⟨rfl,k3⟩
    refine hK.out _ _ ⟨Ext.trans hS.1 k3,(B5.next (Ext.trans hS.1 k3)).cell⟩ (fun hS'=>?_)
    clear hK K hS k3
    have hS:=hS'
    clear hS'
    try simp only [Act.put,zq0,zq1,zq2,zq3,zq4,zq5]
    cases hv with
    | false=>
      have hb : Hid (lb = false):=by show _ = _;rw [HLB4.out,E1.out,E2.out];rfl
      refine wpAnyH_take (i:=25) (v:=?_) rfl (by kernel_rfl) (by kernel_rfl) (by kernel_rfl) (fun _ _ _ h=>h) (Or.inl ⟨by rfl,?_⟩) hS ?_
      rotate_left
      · (intro w hSw;(try dsimp only at hSw);go_simp;(try with_reducible rfl))
      rotate_left
      simp only [Act.put,zq0,zq1,zq2,zq3,zq4,zq5]
      refine wpAnyH_take (i:=26) (v:=?_) rfl (by kernel_rfl) (by kernel_rfl) (by kernel_rfl) (fun _ _ _ h=>h) (Or.inl ⟨by rfl,?_⟩) hS ?_
      rotate_left
      · (intro w hSw;(try dsimp only at hSw);go_simp;(try with_reducible rfl))
      rotate_left
      simp only [Act.put,zq0,zq1,zq2,zq3,zq4,zq5]
      refine wpAnyH_take (i:=27) (v:=?_) rfl (by kernel_rfl) (by kernel_rfl) (by kernel_rfl) (fun _ _ _ h=>h) (Or.inr ⟨by rfl,?_⟩) hS ?_
      rotate_left
      · rfl
      rotate_left
      simp only [Act.put,zq0,zq1,zq2,zq3,zq4,zq5]
      refine wpAnyH_take (i:=28) (v:=?_) rfl (by kernel_rfl) (by kernel_rfl) (by kernel_rfl) (fun _ _ _ h=>h) (Or.inr ⟨by rfl,?_⟩) hS ?_
      rotate_left
      · rfl
      rotate_left
      simp only [Act.put,zq0,zq1,zq2,zq3,zq4,zq5]
      refine wpAnyH_take (i:=29) (v:=?_) rfl (by kernel_rfl) (by kernel_rfl) (by kernel_rfl) (fun _ _ _ h=>h) (Or.inl ⟨by rfl,?_⟩) hS ?_
      rotate_left
      · (intro w hSw;(try dsimp only at hSw);go_simp;(try with_reducible rfl))
      rotate_left
      simp only [Act.put,zq0,zq1,zq2,zq3,zq4,zq5]
      refine wpAnyH_take (i:=30) (v:=?_) rfl (by kernel_rfl) (by kernel_rfl) (by kernel_rfl) (fun _ _ _ h=>h) (Or.inl ⟨by rfl,?_⟩) hS ?_
      rotate_left
      · (intro w hSw;(try dsimp only at hSw);go_simp;(try with_reducible rfl))
      rotate_left
      simp only [Act.put,zq0,zq1,zq2,zq3,zq4,zq5]
      refine wpAnyH_done (by kernel_rfl) ?_ _
      have HT:=Lib.hid (Ext.trans t5 hS.1)
      clear hS
      go_wp2
      go_ret
      exact ⟨by have h:=hb.out;rw [h];try rfl,HT.out⟩
    | true=>
    refine wpAnyH_take (i:=25) (v:=?_) rfl (by kernel_rfl) (by kernel_rfl) (by kernel_rfl) (fun _ _ _ h=>h) (Or.inl ⟨by rfl,?_⟩) hS ?_
    rotate_left
    · (intro w hSw;(try dsimp only at hSw);go_simp;(try with_reducible rfl))
    rotate_left
    simp only [Act.put,zq0,zq1,zq2,zq3,zq4,zq5]
    refine wpAnyH_take (i:=26) (v:=?_) rfl (by kernel_rfl) (by kernel_rfl) (by kernel_rfl) (fun _ _ _ h=>h) (Or.inl ⟨by rfl,?_⟩) hS ?_
    rotate_left
    · (intro w hSw;(try dsimp only at hSw);go_simp;(try with_reducible rfl))
    rotate_left
    simp only [Act.put,zq0,zq1,zq2,zq3,zq4,zq5]
    refine wpAnyH_take (i:=27) (v:=?_) rfl (by kernel_rfl) (by kernel_rfl) (by kernel_rfl) (fun _ _ _ h=>h) (Or.inl ⟨by rfl,?_⟩) hS ?_
    rotate_left
    · (intro w hSw;(try dsimp only at hSw);go_simp;(try with_reducible rfl))
    rotate_left
    simp only [Act.put,zq0,zq1,zq2,zq3,zq4,zq5]
    refine wpAnyH_ready (rs:=[28]) (by kernel_rfl) (by simp) ?_
    refine AllReadyH.cons rfl (fun K hK=>?_) AllReadyH.nil
    rw [if_pos (by rfl)]
    go_simp
    refine (HR6.out _ (B5.next hS.1) (HR5.out.below hS.1)).mono ?_
    rintro e w3 ⟨rfl,k3⟩
    refine hK.out _ _ ⟨Ext.trans hS.1 k3,(B5.next (Ext.trans hS.1 k3)).cell⟩ (fun hS'=>?_)
    clear hK K hS k3
    have hS:=hS'
    clear hS'
    try simp only [Act.put,zq0,zq1,zq2,zq3,zq4,zq5]
    have hb : Hid (lb = rv):=by show _ = _;rw [HLB4.out,E1.out,E2.out];simp
    refine wpAnyH_take (i:=29) (v:=?_) rfl (by kernel_rfl) (by kernel_rfl) (by kernel_rfl) (fun _ _ _ h=>h) (Or.inl ⟨by rfl,?_⟩) hS ?_
    rotate_left
    · (intro w hSw;(try dsimp only at hSw);go_simp;(try with_reducible rfl))
    rotate_left
    simp only [Act.put,zq0,zq1,zq2,zq3,zq4,zq5]
    refine wpAnyH_take (i:=30) (v:=?_) rfl (by kernel_rfl) (by kernel_rfl) (by kernel_rfl) (fun _ _ _ h=>h) (Or.inl ⟨by rfl,?_⟩) hS ?_
    rotate_left
    · (intro w hSw;(try dsimp only at hSw);go_simp;(try with_reducible rfl))
    rotate_left
    simp only [Act.put,zq0,zq1,zq2,zq3,zq4,zq5]
    refine wpAnyH_done (by kernel_rfl) ?_ _
    have HT:=Lib.hid (Ext.trans t5 hS.1)
    clear hS
    go_wp2
    go_ret
    exact ⟨by have h:=hb.out;rw [h];try rfl,HT.out⟩
end Go.Proofs.Ythapabjlhooglaa
