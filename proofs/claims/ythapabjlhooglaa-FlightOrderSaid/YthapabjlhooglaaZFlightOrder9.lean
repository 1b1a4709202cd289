/- What this claim needs of my texts, merged and shortened by a program (part 9). -/
import Derived.Deep.MidRow
import Derived.Deep.CutBlock
import Derived.Great.Walk
import Derived.Test.YthapabjlhooglaaZFlightOrder8
namespace Go.Proofs.Ythapabjlhooglaa
open Go Go.RowKit
set_option linter.unusedSimpArgs false
set_option linter.unusedVariables false
structure AskV where
 k : UInt8
 a : Int
 y : Int
 A : Option Addr
 n : Nat
 q : Nat
def askV (v : AskV) : Int × Int × Int:=(((v.k.toNat : Nat) : Int),v.a,v.y)
def okV (x : Cfg) (v : AskV) : Prop:=askCode x ((v.k.toNat : Nat) : Int) v.a v.y v.n = 0
def touchV (v u : AskV) : Bool:=touchB ((v.k.toNat : Nat) : Int) v.a v.y ((u.k.toNat : Nat) : Int) u.a u.y
def Waits (wh : List Int) (v : Int) : Prop:=∃ (i : Nat) (hi : i < wh.length),wh[i] < 0 ∧ v = (i : Int) + 1
def pendF : Int → List Int → List Int
 | _,[]=>[]
 | i,v :: vs=>if v < 0 then (i + 1) :: pendF (i + 1) vs else pendF (i + 1) vs
theorem pendF_mem : ∀ (wh : List Int) (i v : Int),v ∈ pendF i wh ↔ ∃ (j : Nat) (hj : j < wh.length),wh[j] < 0 ∧ v = i + (j : Int) + 1
 | [],i,v=>by simp [pendF]
 | u :: us,i,v=>by
   have ih:=pendF_mem us (i + 1) v
   unfold pendF
   constructor
   · intro h
     by_cases hu : u < 0
     · rw [if_pos hu] at h
       rcases List.mem_cons.1 h with h | h
       · exact ⟨0,by simp,hu,by omega⟩
       · obtain ⟨j,hj,h1,h2⟩:=ih.1 h
         exact ⟨j + 1,by simpa using hj,h1,by omega⟩
     · rw [if_neg hu] at h
       obtain ⟨j,hj,h1,h2⟩:=ih.1 h
       exact ⟨j + 1,by simpa using hj,h1,by omega⟩
   · rintro ⟨j,hj,h1,h2⟩
     cases j with
     | zero=>
       have h1' : u < 0:=h1
       rw [if_pos h1']
       exact List.mem_cons.2 (.inl (by omega))
     | succ j=>
       have h3 : v ∈ pendF (i + 1) us:=ih.2 ⟨j,by simpa using hj,h1,by omega⟩
       split
       · exact List.mem_cons_of_mem _ h3
       · exact h3
theorem pendF_up : ∀ (wh : List Int) (i : Int),(pendF i wh).Pairwise (· < ·)
 | [],i=>List.Pairwise.nil
 | u :: us,i=>by
   unfold pendF
   split
   · refine List.pairwise_cons.2 ⟨fun v hv=>?_,pendF_up us (i + 1)⟩
     obtain ⟨j,_,_,h⟩:=(pendF_mem us (i + 1) v).1 hv
     omega
   · exact pendF_up us (i + 1)
theorem up_same : ∀ {xs ys : List Int},xs.Pairwise (· < ·) → ys.Pairwise (· < ·) → (∀ v,v ∈ xs ↔ v ∈ ys) → xs = ys
 | [],[],_,_,_=>rfl
 | [],y :: ys,_,_,h=>absurd ((h y).2 (List.mem_cons_self ..)) (by simp)
 | x :: xs,[],_,_,h=>absurd ((h x).1 (List.mem_cons_self ..)) (by simp)
 | x :: xs,y :: ys,h1,h2,h=>by
   obtain ⟨a1,a2⟩:=List.pairwise_cons.1 h1
   obtain ⟨b1,b2⟩:=List.pairwise_cons.1 h2
   have e : x = y:=by
    rcases List.mem_cons.1 ((h x).1 (List.mem_cons_self ..)) with e | e
    · exact e
    · rcases List.mem_cons.1 ((h y).2 (List.mem_cons_self ..)) with e2 | e2
      · exact e2.symm
      · have:=a1 y e2;have:=b1 x e;omega
   subst e
   have e2 : xs = ys:=up_same a2 b2 fun v=>by
    constructor
    · intro hv
      rcases List.mem_cons.1 ((h v).1 (List.mem_cons_of_mem _ hv)) with e | e
      · have:=a1 v hv;omega
      · exact e
    · intro hv
      rcases List.mem_cons.1 ((h v).2 (List.mem_cons_of_mem _ hv)) with e | e
      · have:=b1 v hv;omega
      · exact e
   rw [e2]
structure OrdL (x : Cfg) (ls : List FlTy.T) (av : List AskV) (wh : List Int) : Prop where
 fl : flB x ls = true
 len : av.length = wh.length
 ok : ∀ v ∈ av,okV x v
 pend : ∀ v : Int,(∃ f ∈ ls,fN f = v) ↔ Waits wh v
 ask : ∀ f ∈ ls,∀ (i : Nat) (hi : i < av.length),fN f = (i : Int) + 1 → askV av[i] = (kI f,fA f,fM f)
structure Step (x : Cfg) (ls : List FlTy.T) (av : List AskV) (wh : List Int) (yes : List FlTy.T) : Prop where
 fl : flB x ls = true
 len : av.length = wh.length
 ok : ∀ v ∈ av,okV x v
 pend : ∀ v : Int,(∃ f,(f ∈ yes ∨ f ∈ ls) ∧ fN f = v) ↔ Waits wh v
 ask : ∀ f,(f ∈ yes ∨ f ∈ ls) → ∀ (i : Nat) (hi : i < av.length),fN f = (i : Int) + 1 → askV av[i] = (kI f,fA f,fM f)
 up : yes.Pairwise (fun f g=>fN f < fN g)
 apart : ∀ f ∈ yes,∀ g ∈ ls,fN f ≠ fN g
 free : ∀ f ∈ yes,∀ (i m : Nat) (hi : i < av.length) (hm : m < i),fN f = (i : Int) + 1 → Waits wh ((m : Int) + 1) → touchV (av[m]'(by omega)) av[i] = false
theorem OrdL.start {x : Cfg} (h : x.Ok) : OrdL x [] [] [] where
 fl:=flB_pw.2 ⟨h,by simp,by simp,List.Pairwise.nil⟩
 len:=rfl
 ok:=by simp
 pend:=fun v=>⟨fun ⟨f,hf,_⟩=>absurd hf (by simp),fun ⟨i,hi,_⟩=>absurd hi (by simp)⟩
 ask:=fun f hf=>absurd hf (by simp)
theorem waits_app {wh : List Int} {v : Int} : Waits (wh ++ [-1]) v ↔ Waits wh v ∨ v = (wh.length : Int) + 1:=by
 constructor
 · rintro ⟨i,hi,h1,h2⟩
   by_cases e : i < wh.length
   · rw [List.getElem_append_left e] at h1
     exact .inl ⟨i,e,h1,h2⟩
   · rw [List.length_append] at hi
     have : i = wh.length:=by simp at hi;omega
     exact .inr (by omega)
 · rintro (⟨i,hi,h1,h2⟩ | h)
   · exact ⟨i,by rw [List.length_append];omega,by rw [List.getElem_append_left hi];exact h1,h2⟩
   · exact ⟨wh.length,by rw [List.length_append];simp,by rw [List.getElem_append_right (Nat.le_refl _)];simp,h⟩
theorem Step.none {x : Cfg} {ls : List FlTy.T} {av : List AskV} {wh : List Int} (h : OrdL x ls av wh) : Step x ls av wh [] where
 fl:=h.fl
 len:=h.len
 ok:=h.ok
 pend:=fun v=>by
  rw [← h.pend v]
  exact ⟨fun ⟨f,hf,e⟩=>⟨f,hf.resolve_left (by simp),e⟩,fun ⟨f,hf,e⟩=>⟨f,.inr hf,e⟩⟩
 ask:=fun f hf=>h.ask f (hf.resolve_left (by simp))
 up:=List.Pairwise.nil
 apart:=fun f hf=>absurd hf (by simp)
 free:=fun f hf=>absurd hf (by simp)
theorem OrdL.same {x : Cfg} {ls ls2 : List FlTy.T} {av : List AskV} {wh : List Int} (h : OrdL x ls av wh) (h1 : flB x ls2 = true) (h2 : ls2.map askOf = ls.map askOf) : OrdL x ls2 av wh where
 fl:=h1
 len:=h.len
 ok:=h.ok
 pend:=fun v=>by
  rw [← h.pend v]
  constructor
  · rintro ⟨f,hf,e⟩
    have : askOf f ∈ ls.map askOf:=by rw [← h2];exact List.mem_map_of_mem hf
    obtain ⟨g,hg,e2⟩:=List.mem_map.1 this
    exact ⟨g,hg,(congrArg (·.1) e2).trans e⟩
  · rintro ⟨f,hf,e⟩
    have : askOf f ∈ ls2.map askOf:=by rw [h2];exact List.mem_map_of_mem hf
    obtain ⟨g,hg,e2⟩:=List.mem_map.1 this
    exact ⟨g,hg,(congrArg (·.1) e2).trans e⟩
 ask:=fun f hf i hi e=>by
  have : askOf f ∈ ls.map askOf:=by rw [← h2];exact List.mem_map_of_mem hf
  obtain ⟨g,hg,e2⟩:=List.mem_map.1 this
  have e3:=h.ask g hg i hi ((congrArg (·.1) e2).trans e)
  rw [e3]
  exact congrArg (·.2) e2
theorem OrdL.add {x : Cfg} {ls : List FlTy.T} {av : List AskV} {wh : List Int} (h : OrdL x ls av wh) {v : AskV} {bs : List UInt8} {last : Nat} (hn : v.n = bs.length) (h0 : (addP x ls ((av.length : Int) + 1) v.k v.a v.y bs last).2 = 0) : OrdL x (addP x ls ((av.length : Int) + 1) v.k v.a v.y bs last).1 (av ++ [v]) (wh ++ [-1]):=by
 unfold addP at h0 ⊢
 rw [if_pos h.fl] at h0 ⊢
 split at h0
 rotate_left
 · rename_i hc;exact absurd h0 hc
 rename_i hc
 rw [if_pos hc]
 split at h0
 · exact absurd h0 (by decide)
 rename_i h1
 rw [if_neg h1]
 split at h0
 · exact absurd h0 (by decide)
 rename_i h2
 rw [if_neg h2]
 have hy : ((v.y.toNat : Nat) : Int) = v.y:=by have:=(askCode_0 hc).2.2.2.1;omega
 refine { fl:=add_ok h.fl hc h1 h2,len:=by rw [List.length_append,List.length_append,h.len];rfl,ok:=fun u hu=>?_,pend:=fun u=>?_,ask:=fun f hf i hi e=>?_ }
 · rcases List.mem_append.1 hu with hu | hu
   · exact h.ok u hu
   · rw [List.mem_singleton.1 hu]
     unfold okV
     rw [hn]
     exact hc
 · rw [waits_app,← h.pend u,← h.len]
   constructor
   · rintro ⟨f,hf,e⟩
     rcases List.mem_append.1 hf with hf | hf
     · exact .inl ⟨f,hf,e⟩
     · rw [List.mem_singleton.1 hf] at e
       exact .inr e.symm
   · rintro (⟨f,hf,e⟩ | e)
     · exact ⟨f,List.mem_append_left _ hf,e⟩
     · exact ⟨_,List.mem_append_right _ (List.mem_singleton.2 rfl),e.symm⟩
 · rcases List.mem_append.1 hf with hf | hf
   · have hw:=(h.pend (fN f)).1 ⟨f,hf,rfl⟩
     obtain ⟨j,hj,_,e2⟩:=hw
     have hl:=h.len
     have hia : i < av.length:=by omega
     rw [List.getElem_append_left hia]
     exact h.ask f hf i hia e
   · rw [List.mem_singleton.1 hf] at e ⊢
     have e' : (av.length : Int) + 1 = (i : Int) + 1:=e
     have : i = av.length:=by omega
     subst this
     rw [List.getElem_append_right (Nat.le_refl _)]
     simp only [Nat.sub_self,List.getElem_cons_zero]
     unfold askV
     show _ = (((v.k.toNat : Nat) : Int),v.a,((v.y.toNat : Nat) : Int))
     rw [hy]
theorem ahead_of {x : Cfg} {fs : List FlTy.T} (h : flB x fs = true) {f g : FlTy.T} (hf : f ∈ fs) (hg : g ∈ fs) (hl : fN g < fN f) : AheadR g f:=by
 have h4:=(flB_pw.1 h).2.2.2
 obtain ⟨i,hi,rfl⟩:=List.getElem_of_mem hf
 obtain ⟨j,hj,rfl⟩:=List.getElem_of_mem hg
 rw [List.pairwise_iff_getElem] at h4
 rcases Nat.lt_trichotomy i j with e | e | e
 · have:=(h4 i j hi hj e).1;omega
 · subst e;omega
 · exact h4 j i hj hi e
theorem flB_up {x : Cfg} {fs : List FlTy.T} (h : flB x fs = true) : fs.Pairwise (fun f g=>fN f < fN g):=(flB_pw.1 h).2.2.2.imp fun h=>h.1
theorem Step.done {x : Cfg} {ls : List FlTy.T} {av : List AskV} {wh : List Int} (h : OrdL x ls av wh) (vs : List LvTy.T) (back nolog : Bool) : Step x (partF (doneB vs back nolog) ls true).2 av wh (partF (doneB vs back nolog) ls true).1 where
 fl:=part_ok h.fl
 len:=h.len
 ok:=h.ok
 pend:=fun v=>by
  rw [← h.pend v]
  exact ⟨fun ⟨f,hf,e⟩=>⟨f,partF_mem hf,e⟩,fun ⟨f,hf,e⟩=>⟨f,partF_or _ _ _ f hf,e⟩⟩
 ask:=fun f hf=>h.ask f (partF_mem hf)
 up:=(flB_up h.fl).sublist (partF_sub _ _ _).1
 apart:=partF_apart _ _ _ (flB_up h.fl)
 free:=fun f hf i m hi hm e hw=>by
  obtain ⟨g,hg,eg⟩:=(h.pend _).2 hw
  obtain ⟨c,hd⟩:=partF_yes _ _ _ f hf
  have hfl : f ∈ ls:=partF_mem (.inl hf)
  have hR:=ahead_of h.fl hfl hg (by omega)
  have ef:=h.ask f hfl i hi e
  have eG:=h.ask g hg m (by omega) eg
  have e1 : touchV (av[m]'(by omega)) av[i] = meetF g f:=by
   unfold askV at ef eG
   simp only [Prod.mk.injEq] at ef eG
   unfold touchV meetF
   rw [ef.1,ef.2.1,ef.2.2,eG.1,eG.2.1,eG.2.2]
  rw [e1]
  cases hm2 : meetF g f with
  | false=>rfl
  | true=>
    have hpos : 0 < fM f:=by
     unfold meetF touchB at hm2
     rw [Bool.and_eq_true,decide_eq_true_eq] at hm2
     exact hm2.2.2.1
    have:=hR.2 (done_goes ((flB_pw.1 h.fl).2.2.1 f hfl) hd hpos)
    rw [this] at hm2
    cases hm2
def WhTo (wh : List Int) (yes : List FlTy.T) (k : Nat) (wk : List Int) : Prop:=
 wk.length = wh.length ∧ ∀ v,Waits wk v ↔ (Waits wh v ∧ ∀ j (hj : j < yes.length),j < k → fN yes[j] ≠ v)
theorem WhTo.start {wh : List Int} {yes : List FlTy.T} : WhTo wh yes 0 wh:=⟨rfl,fun v=>⟨fun h=>⟨h,fun j _ hj=>absurd hj (Nat.not_lt_zero _)⟩,fun h=>h.1⟩⟩
theorem WhTo.at {x : Cfg} {ls : List FlTy.T} {av : List AskV} {wh wk : List Int} {yes : List FlTy.T} {k : Nat} (h : WhTo wh yes k wk) (hs : Step x ls av wh yes) (hk : k < yes.length) : ∃ (i : Nat) (hi : i < wk.length) (ha : i < av.length),fN yes[k] = (i : Int) + 1 ∧ wk[i] < 0 ∧ av[i].y = fM yes[k]:=by
 have hw : Waits wk (fN yes[k]):=(h.2 _).2 ⟨(hs.pend _).1 ⟨_,.inl (List.getElem_mem hk),rfl⟩,fun j hj hjk e=>by
  have:=List.pairwise_iff_getElem.1 hs.up j k hj hk hjk
  omega⟩
 obtain ⟨i,hi,h1,h2⟩:=hw
 have ha : i < av.length:=by rw [hs.len,← h.1];exact hi
 have:=hs.ask _ (.inl (List.getElem_mem hk)) i ha h2
 exact ⟨i,hi,ha,h2,h1,congrArg (fun z=>z.2.2) this⟩
theorem WhTo.next {wh wk : List Int} {yes : List FlTy.T} {k i : Nat} (h : WhTo wh yes k wk) (hk : k < yes.length) (hi : i < wk.length) (e : fN yes[k] = (i : Int) + 1) {r : Int} (hr : 0 ≤ r) : WhTo wh yes (k + 1) (wk.set i r):=by
 refine ⟨by rw [List.length_set];exact h.1,fun v=>?_⟩
 constructor
 · rintro ⟨j,hj,h1,h2⟩
   rw [List.length_set] at hj
   have hij : i ≠ j:=by
    intro e2
    subst e2
    rw [List.getElem_set_self] at h1
    omega
   rw [List.getElem_set_ne hij] at h1
   obtain ⟨h3,h4⟩:=(h.2 v).1 ⟨j,hj,h1,h2⟩
   refine ⟨h3,fun z hz hzk=>?_⟩
   by_cases e3 : z = k
   · subst e3;omega
   · exact h4 z hz (by omega)
 · rintro ⟨h1,h2⟩
   obtain ⟨j,hj,h3,h4⟩:=(h.2 v).2 ⟨h1,fun z hz hzk=>h2 z hz (by omega)⟩
   have hij : i ≠ j:=by
    intro e2
    subst e2
    have:=h2 k hk (by omega)
    omega
   exact ⟨j,by rw [List.length_set];exact hj,by rw [List.getElem_set_ne hij];exact h3,h4⟩
theorem WhTo.free {x : Cfg} {ls : List FlTy.T} {av : List AskV} {wh wk : List Int} {yes : List FlTy.T} {k i m : Nat} (h : WhTo wh yes (k + 1) wk) (hs : Step x ls av wh yes) (hk : k < yes.length) (hi : i < av.length) (e : fN yes[k] = (i : Int) + 1) (hm : m < i) (hmk : m < wk.length) : touchV (av[m]'(by omega)) av[i] = true → ¬ wk[m] < 0:=fun ht hw=>by
 have h1 : Waits wk ((m : Int) + 1):=⟨m,hmk,hw,rfl⟩
 have h2:=hs.free _ (List.getElem_mem hk) i m hi hm e ((h.2 _).1 h1).1
 rw [h2] at ht
 cases ht
theorem WhTo.done {x : Cfg} {ls : List FlTy.T} {av : List AskV} {wh wk : List Int} {yes : List FlTy.T} (h : WhTo wh yes yes.length wk) (hs : Step x ls av wh yes) : OrdL x ls av wk where
 fl:=hs.fl
 len:=by rw [hs.len,h.1]
 ok:=hs.ok
 pend:=fun v=>by
  rw [h.2 v,← hs.pend v]
  constructor
  · rintro ⟨f,hf,e⟩
    refine ⟨⟨f,.inr hf,e⟩,fun j hj _ e2=>?_⟩
    exact hs.apart _ (List.getElem_mem hj) f hf (by omega)
  · rintro ⟨⟨f,hf,e⟩,h2⟩
    rcases hf with hf | hf
    · obtain ⟨j,hj,rfl⟩:=List.getElem_of_mem hf
      exact absurd e (h2 j hj hj)
    · exact ⟨f,hf,e⟩
 ask:=fun f hf=>hs.ask f (.inr hf)
theorem OrdL.nums {x : Cfg} {ls : List FlTy.T} {av : List AskV} {wh : List Int} (h : OrdL x ls av wh) : ls.map fN = pendF 0 wh:=by
 refine up_same ?_ (pendF_up wh 0) fun v=>?_
 · rw [List.pairwise_map]
   exact flB_up h.fl
 · rw [pendF_mem,List.mem_map]
   have h2:=h.pend v
   unfold Waits at h2
   rw [h2]
   constructor
   · rintro ⟨i,hi,h1,h3⟩
     exact ⟨i,hi,h1,by omega⟩
   · rintro ⟨i,hi,h1,h3⟩
     exact ⟨i,hi,h1,by omega⟩
end Go.Proofs.Ythapabjlhooglaa
namespace Go.Proofs.Ythapabjlhooglaa
open Go Go.RowKit
set_option linter.unusedSimpArgs false
set_option linter.unusedVariables false
set_option linter.unusedSectionVars false
theorem cfg_deep {w : World} {S : Nat → Prop} {cs : List Value} {x : (Ty.st (.prod .u32 (.prod .int (.prod .int (.prod .int (.prod .int (.prod .int .unit))))))).T} (h : RdIn w S (Ty.st (.prod .u32 (.prod .int (.prod .int (.prod .int (.prod .int (.prod .int .unit))))))) x cs) : ∃ y : Cfg,Value.agg cs.toArray = y.val:=by
 obtain ⟨id,m,c,r,l,h',u⟩:=x
 obtain ⟨c0,d0,rfl,r0,h⟩:=rdin_prod.1 (rdin_st.1 h)
 obtain ⟨c1,d1,rfl,r1,h⟩:=rdin_prod.1 h
 obtain ⟨c2,d2,rfl,r2,h⟩:=rdin_prod.1 h
 obtain ⟨c3,d3,rfl,r3,h⟩:=rdin_prod.1 h
 obtain ⟨c4,d4,rfl,r4,h⟩:=rdin_prod.1 h
 obtain ⟨c5,d5,rfl,r5,h⟩:=rdin_prod.1 h
 obtain rfl:=rdin_unit.1 h
 obtain ⟨rfl,_⟩:=rdin_u32.1 r0
 obtain ⟨rfl,_⟩:=rdin_int.1 r1
 obtain ⟨rfl,_⟩:=rdin_int.1 r2
 obtain ⟨rfl,_⟩:=rdin_int.1 r3
 obtain ⟨rfl,_⟩:=rdin_int.1 r4
 obtain ⟨rfl,_⟩:=rdin_int.1 r5
 exact ⟨⟨id,m,c,r,l,h'⟩,rfl⟩
theorem sl_deep {w : World} {S : Nat → Prop} {e : Ty} {xs : List e.T} {v : Value} (h : RdIn w S (.sl e) xs [v]) : ∃ A c,v = .slice A xs.length c:=by
 obtain ⟨A,c,e,_⟩:=rdin_sl.1 h
 exact ⟨A,c,(List.cons.inj e).1⟩
end Go.Proofs.Ythapabjlhooglaa
namespace Go.Proofs.Ythapabjlhooglaa
open Go Go.RowKit
set_option linter.unusedSimpArgs false
set_option linter.unusedVariables false
abbrev ThTy : Ty:=.st (.prod .byte (.prod (.st (.prod .byte (.prod .int (.prod .int (.prod (.sl .byte) .unit))))) (.prod (.st (.prod .int (.prod .int (.prod .byte (.prod .u32 (.prod (.sl .byte) .unit)))))) (.prod (.sl .int) (.prod LogTy (.prod .bool (.prod .bool .unit)))))))
abbrev ThRaw : Type:=UInt8 × (UInt8 × Int × Int × List UInt8 × Unit) × (Int × Int × UInt8 × Nat × List UInt8 × Unit) × List Int × LogTy.T × Bool × Bool × Unit
def tK (t : ThTy.T) : UInt8:=(show ThRaw from t).1
def tAk (t : ThTy.T) : UInt8:=(show ThRaw from t).2.1.1
def tAa (t : ThTy.T) : Int:=(show ThRaw from t).2.1.2.1
def tAy (t : ThTy.T) : Int:=(show ThRaw from t).2.1.2.2.1
def tAd (t : ThTy.T) : List UInt8:=(show ThRaw from t).2.1.2.2.2.1
def tGn (t : ThTy.T) : Int:=(show ThRaw from t).2.2.1.1
def tGb (t : ThTy.T) : Int:=(show ThRaw from t).2.2.1.2.1
def tGs (t : ThTy.T) : UInt8:=(show ThRaw from t).2.2.1.2.2.1
def tGq (t : ThTy.T) : Nat:=(show ThRaw from t).2.2.1.2.2.2.1
def tGd (t : ThTy.T) : List UInt8:=(show ThRaw from t).2.2.1.2.2.2.2.1
def tBl (t : ThTy.T) : List Int:=(show ThRaw from t).2.2.2.1
def tLg (t : ThTy.T) : LogTy.T:=(show ThRaw from t).2.2.2.2.1
def tBk (t : ThTy.T) : Bool:=(show ThRaw from t).2.2.2.2.2.1
def tNl (t : ThTy.T) : Bool:=(show ThRaw from t).2.2.2.2.2.2.1
section
variable {w : World} {S : Nat → Prop}
def ThParts (w : World) (S : Nat → Prop) (t : ThTy.T) (Ad : Option Addr) (cd : Nat) (Gd : Option Addr) (ce : Nat) (Bl : Option Addr) (cb : Nat) (L : Option Addr) (lc : Nat) : Prop:=
 (IsInt (tAa t) ∧ IsInt (tAy t) ∧ IsInt (tGn t) ∧ IsInt (tGb t) ∧ tGq t < 2 ^ 32) ∧ (lgA (tLg t) < 2 ^ 32 ∧ lgQ (tLg t) < 2 ^ 32 ∧ IsInt (lgT (tLg t)) ∧ IsInt (lgU (tLg t))) ∧ RdIn w S (.sl .byte) (tAd t) [.slice Ad (tAd t).length cd] ∧ RdIn w S (.sl .byte) (tGd t) [.slice Gd (tGd t).length ce] ∧ RdIn w S (.sl .int) (tBl t) [.slice Bl (tBl t).length cb] ∧ RdIn w S (.sl LvTy) (lgL (tLg t)) [.slice L (lgL (tLg t)).length lc]
theorem th_view {t : ThTy.T} {cs : List Value} (h : RdIn w S ThTy t cs) : ∃ Ad cd Gd ce Bl cb L lc,cs = (#[.int .u8 ((tK t).toNat : Int),.int .u8 ((tAk t).toNat : Int),.int .i64 (tAa t),.int .i64 (tAy t),.slice Ad (tAd t).length cd,.int .i64 (tGn t),.int .i64 (tGb t),.int .u8 ((tGs t).toNat : Int),.int .u32 (tGq t : Int),.slice Gd (tGd t).length ce,.slice Bl (tBl t).length cb,.int .u32 (lgA (tLg t) : Int),.int .u32 (lgQ (tLg t) : Int),.int .i64 (lgT (tLg t)),.int .i64 (lgU (tLg t)),.slice L (lgL (tLg t)).length lc,.bool (tBk t),.bool (tNl t)] : Array Value).toList ∧ ThParts w S t Ad cd Gd ce Bl cb L lc:=by
 obtain ⟨k,a,g,bl,lg,bk,nl,z⟩:=t
 obtain ⟨gn,gb,gs,gq,gd,z2⟩:=g
 obtain ⟨c0,d0,rfl,r0,h⟩:=rdin_prod.1 (rdin_st.1 h)
 obtain ⟨c1,d1,rfl,r1,h⟩:=rdin_prod.1 h
 obtain ⟨c2,d2,rfl,r2,h⟩:=rdin_prod.1 h
 obtain ⟨c3,d3,rfl,r3,h⟩:=rdin_prod.1 h
 obtain ⟨c4,d4,rfl,r4,h⟩:=rdin_prod.1 h
 obtain ⟨c5,d5,rfl,r5,h⟩:=rdin_prod.1 h
 obtain ⟨c6,d6,rfl,r6,h⟩:=rdin_prod.1 h
 obtain rfl:=rdin_unit.1 h
 obtain rfl:=rdin_byte.1 r0
 obtain ⟨ki,at',many,bs,v,rfl,rfl,i1,i2,r7⟩:=ask_view r1
 obtain ⟨c8,d8,rfl,r8,h⟩:=rdin_prod.1 (rdin_st.1 r2)
 obtain ⟨c9,d9,rfl,r9,h⟩:=rdin_prod.1 h
 obtain ⟨c10,d10,rfl,r10,h⟩:=rdin_prod.1 h
 obtain ⟨c11,d11,rfl,r11,h⟩:=rdin_prod.1 h
 obtain ⟨c12,d12,rfl,r12,h⟩:=rdin_prod.1 h
 obtain rfl:=rdin_unit.1 h
 obtain ⟨rfl,i8⟩:=rdin_int.1 r8
 obtain ⟨rfl,i9⟩:=rdin_int.1 r9
 obtain rfl:=rdin_byte.1 r10
 obtain ⟨rfl,i11⟩:=rdin_u32.1 r11
 obtain ⟨L,lc,rfl,hlg,rl⟩:=lg_view r4
 obtain rfl:=rdin_bool.1 r5
 obtain rfl:=rdin_bool.1 r6
 obtain ⟨Ad,cd,e1,_⟩:=rdin_sl.1 r7
 obtain ⟨Gd,ce,e2,_⟩:=rdin_sl.1 r12
 obtain ⟨Bl,cb,e3,_⟩:=rdin_sl.1 r3
 obtain rfl:=(List.cons.inj e1).1
 subst e2 e3
 exact ⟨Ad,cd,Gd,ce,Bl,cb,L,lc,rfl,⟨i1,i2,i8,i9,i11⟩,hlg,r7,r12,r3,rl⟩
theorem th_max {ts : List ThTy.T} {v : Value} (h : RdIn w S (.sl ThTy) ts [v]) : ts.length ≤ maxLen:=by
 obtain ⟨A,c,_,h2,h3,_⟩:=list_view h
 exact Nat.le_trans h2 h3
theorem th_at {ts : List ThTy.T} {B : Option Addr} {n d : Nat} (h : RdIn w S (.sl ThTy) ts [.slice B n d]) {j : Nat} (hj : j < ts.length) :
 ∃ b off Ad cd Gd ce Bl cb L lc,B = some ⟨b,off,none⟩ ∧ (∀ p,p < 18 → w.cell? ⟨b,off + j * 18 + p,none⟩ = (#[.int .u8 ((tK (ts[j]'hj)).toNat : Int),.int .u8 ((tAk (ts[j]'hj)).toNat : Int),.int .i64 (tAa (ts[j]'hj)),.int .i64 (tAy (ts[j]'hj)),.slice Ad (tAd (ts[j]'hj)).length cd,.int .i64 (tGn (ts[j]'hj)),.int .i64 (tGb (ts[j]'hj)),.int .u8 ((tGs (ts[j]'hj)).toNat : Int),.int .u32 (tGq (ts[j]'hj) : Int),.slice Gd (tGd (ts[j]'hj)).length ce,.slice Bl (tBl (ts[j]'hj)).length cb,.int .u32 (lgA (tLg (ts[j]'hj)) : Int),.int .u32 (lgQ (tLg (ts[j]'hj)) : Int),.int .i64 (lgT (tLg (ts[j]'hj))),.int .i64 (lgU (tLg (ts[j]'hj))),.slice L (lgL (tLg (ts[j]'hj))).length lc,.bool (tBk (ts[j]'hj)),.bool (tNl (ts[j]'hj))] : Array Value).toList[p]?) ∧ ThParts w S (ts[j]'hj) Ad cd Gd ce Bl cb L lc:=by
 obtain ⟨A1,c1,e1,_,_,_,hr1⟩:=list_view h
 injection e1 with e11 e12 e13
 obtain ⟨b,off,e2,_,hrow⟩:=hr1 (by omega)
 obtain ⟨es,hc,rg⟩:=hrow j hj
 obtain ⟨Ad,cd,Gd,ce,Bl,cb,L,lc,rfl,hp⟩:=th_view rg
 exact ⟨b,off,Ad,cd,Gd,ce,Bl,cb,L,lc,e11.trans e2,hc,hp⟩
end
def intV (z : Int) : Value:=.int .i64 z
def cellsA (v : AskV) : List Value:=[.int .u8 ((v.k.toNat : Nat) : Int),.int .i64 v.a,.int .i64 v.y,.slice v.A v.n v.q]
theorem own_setcell9 {w : World} {base e n cap g : Nat} {xs : List Value} (h : w.ownsRow base e 1 (.slice (some ⟨g,0,none⟩) n cap) n xs) (h0 : 0 < n) (i : Nat) (v : Value) : (w.setCell ⟨g,i,none⟩ v).ownsRow base e 1 (.slice (some ⟨g,0,none⟩) n cap) n (xs.set i v):=by
 obtain ⟨g',cap',cur,e1,h1,h2,h3,h4,h5,h6⟩:=own_view h h0
 injection e1 with e2 _ e3
 injection e2 with e2
 injection e2 with e2 _ _
 subst e2 e3
 refine ⟨by rw [List.length_set];exact h.1,.inr ⟨g,cap,_,rfl,h1,mbox_self h2 i v,h3,h4,by rw [Array.size_setIfInBounds];exact h5,?_⟩⟩
 rw [Array.toList_setIfInBounds,List.take_set]
 congr 1
 refine List.ext_getElem? fun q=>?_
 rw [List.getElem?_take]
 split
 · rename_i hq
   exact h6 q hq
 · rename_i hq
   have:=h.1
   rw [List.getElem?_eq_none (by omega)]
theorem rd_ints {w : World} {A : Option Addr} {xs : List Int} (h : Rd w A (xs.map intV)) {i : Nat} (hi : i < xs.length) : ∃ b off,A = some ⟨b,off,none⟩ ∧ w.cell? ⟨b,off + i,none⟩ = some (.int .i64 xs[i]):=by
 rcases h with h | ⟨b,off,hA,hc⟩
 · rw [List.map_eq_nil_iff] at h
   rw [h] at hi
   exact absurd hi (by simp)
 · refine ⟨b,off,hA,?_⟩
   rw [hc i (by rw [List.length_map];exact hi),List.getElem?_map,List.getElem?_eq_getElem hi]
   rfl
theorem rd_asks {w : World} {A : Option Addr} {av : List AskV} (h : Rd w A (av.map cellsA).flatten) {i : Nat} (hi : i < av.length) : ∃ b off,A = some ⟨b,off,none⟩ ∧ ∀ p,p < 4 → w.cell? ⟨b,off + (i * 4 + p),none⟩ = (cellsA av[i])[p]?:=by
 have hes : ∀ es ∈ av.map cellsA,es.length = 4:=by
  intro es he
  obtain ⟨v,_,rfl⟩:=List.mem_map.1 he
  rfl
 have hat : ∀ p,p < 4 → (av.map cellsA).flatten[i * 4 + p]? = (cellsA av[i])[p]?:=fun p hp=>by
  rw [flatten_at _ hes i p hp,List.getElem?_map,List.getElem?_eq_getElem hi]
  rfl
 rcases h with h | ⟨b,off,hA,hc⟩
 · have h0:=hat 0 (by decide)
   rw [h] at h0
   cases h0
 · refine ⟨b,off,hA,fun p hp=>?_⟩
   have hl : i * 4 + p < (av.map cellsA).flatten.length:=by
    have h0:=hat p hp
    by_cases hh : i * 4 + p < (av.map cellsA).flatten.length
    · exact hh
    · rw [List.getElem?_eq_none (by omega)] at h0
      have : p < (cellsA av[i]).length:=hp
      rw [List.getElem?_eq_getElem this] at h0
      cases h0
   rw [hc _ hl,hat p hp]
theorem pendF_at {wh : List Int} {i : Nat} (hi : i < wh.length) : pendF (i : Int) (wh.drop i) = if wh[i] < 0 then ((i : Int) + 1) :: pendF ((i + 1 : Nat) : Int) (wh.drop (i + 1)) else pendF ((i + 1 : Nat) : Int) (wh.drop (i + 1)):=by
 rw [List.drop_eq_getElem_cons hi]
 rfl
set_option maxRecDepth 100000 in
set_option maxHeartbeats 4000000 in
theorem gone_any (S : Nat → Prop) (fs : List FlTy.T) (N d : Nat) (B : Option Addr) (hN : fs.length = N) (hNm : N ≤ maxLen) (wh : List Int) (M e : Nat) (A : Option Addr) (hM : wh.length = M) (hMm : M ≤ maxLen) (hp : fs.map fN = pendF 0 wh) (w : World) (hr : RdIn w S (.sl FlTy) fs [.slice B N d]) (hw : Rd w A (wh.map intV)) :
 Calls Try.prog 34 #[.slice B N d,.slice A M e] w fun e w'=>e = .returned (.bool true) ∧ Below w.heap.size w w':=by
 have HR:=Lib.hid hr
 have HW:=Lib.hid hw
 have HNL:=Lib.hid hN
 have HML:=Lib.hid hM
 have HNM:=Lib.hid hNm
 have HMM:=Lib.hid hMm
 have HP0 : Hid ((fs.map fN).drop 0 = pendF ((0 : Nat) : Int) (wh.drop 0)):=by show _ = _;rw [List.drop_zero,List.drop_zero];exact hp
 clear hr hw hN hM hNm hMm hp
 go_enter Try.func34,Try.ntmps34
 go_upto_region 1 with fail
 obtain ⟨W,hW⟩ : ∃ z : World,z = w:=⟨_,rfl⟩
 have b0 : Below W.heap.size W w:=by rw [hW];exact Below.refl _ _
 have HWW:=Lib.hid hW
 rw [← hW] at HR HW
 clear hW
 go_wp2
 go_loopw [5,6] (fun v u wr=>∃ (i n : Nat),i ≤ M ∧ n ≤ N ∧ u = .int .i64 (i : Int) ∧ v = .int .i64 (n : Int) ∧ Below W.heap.size W wr ∧ Hid ((fs.map fN).drop n = pendF (i : Int) (wh.drop i))) (fun _ u _=>M - (intOf u).toNat)
 case atStart=>exact ⟨0,0,Nat.zero_le _,Nat.zero_le _,rfl,rfl,b0,HP0.out⟩
 case round=>
  obtain ⟨i,n,hi,hn,rfl,rfl,b1,HP⟩:=hrel
  clear b0 HP0
  have bw : Below w.heap.size w wr:=by have:=HWW.out;subst this;exact b1
  by_cases hlt : i < M
  · have hiw : i < wh.length:=by have:=HML.out;omega
    have HPA:=Lib.hid (pendF_at hiw)
    obtain ⟨b,off,hA,kw⟩:=rd_ints (HW.out.below b1) hiw
    subst hA
    have HWJ:=next_wrap HMM.out hlt
    have HLI:=Lib.hid hlt
    by_cases h0 : wh[i] < 0
    · have HP2 : Hid ((fs.map fN).drop n = ((i : Int) + 1) :: pendF ((i + 1 : Nat) : Int) (wh.drop (i + 1))):=by show _ = _;rw [HP.out,HPA.out,if_pos h0]
      have hnN : n < N:=by
       have h1:=congrArg List.length HP2.out
       rw [List.length_drop,List.length_map,List.length_cons] at h1
       have:=HNL.out
       omega
      have hnf : n < fs.length:=by have:=HNL.out;omega
      have HP3 : Hid ((fs.map fN).drop (n + 1) = pendF ((i + 1 : Nat) : Int) (wh.drop (i + 1)) ∧ fN fs[n] = ((i + 1 : Nat) : Int)):=by
       have h1:=HP2.out
       rw [List.drop_eq_getElem_cons (by rw [List.length_map];exact hnf)] at h1
       injection h1 with h1 h2
       rw [List.getElem_map] at h1
       exact ⟨h2,by omega⟩
      obtain ⟨b2,off2,_,_,_,_,_,_,_,_,rfl,q0,_⟩:=fl_at (HR.out.below b1) hnf
      rw [HP3.out.2] at q0
      have HP4:=Lib.hid HP3.out.1
      have hwi:=HWJ.out
      have HWN:=next_wrap HNM.out hnN
      have HLN:=Lib.hid hnN
      have hnw:=HWN.out
      generalize wh[i] = z at *
      clear HP HPA HP2 HP3 hiw
      go_wp2
      go_roundw
      case rel=>exact ⟨i + 1,n + 1,HLI.out,HLN.out,by first | rfl | exact round_same HWJ | go_num,by first | rfl | exact round_same HWN | go_num,b1,HP4.out⟩
      case measure=>first | exact round_less HWJ HLI.out | (have h:=HLI.out;simp [intOf];omega)
    · have HP3 : Hid ((fs.map fN).drop n = pendF ((i + 1 : Nat) : Int) (wh.drop (i + 1))):=by show _ = _;rw [HP.out,HPA.out,if_neg h0]
      generalize wh[i] = z at *
      clear HP HPA hiw
      go_wp2
      go_roundw
      case rel=>exact ⟨i + 1,n,HLI.out,hn,by first | rfl | exact round_same HWJ | go_num,rfl,b1,HP3.out⟩
      case measure=>first | exact round_less HWJ HLI.out | (have h:=HLI.out;simp [intOf];omega)
  · have hnN : n = N:=by
     have h1:=congrArg List.length HP.out
     rw [List.length_drop,List.length_map,List.drop_eq_nil_of_le (by have:=HML.out;omega)] at h1
     have h2 : (pendF (i : Int) ([] : List Int)).length = 0:=rfl
     have:=HNL.out
     omega
    subst hnN
    clear HP
    go_wp2
    go_ret
    exact ⟨rfl,bw⟩
set_option maxRecDepth 100000 in
set_option maxHeartbeats 4000000 in
theorem long_any24 (S : Nat → Prop) (ts : List ThTy.T) (N d : Nat) (B : Option Addr) (hN : ts.length = N) (w : World) (hr : RdIn w S (.sl ThTy) ts [.slice B N d]) :
 Calls Try.prog 32 #[.slice B N d] w fun e w'=>AnyB e ∧ Below w.heap.size w w':=by
 have HG:=Lib.hid hr
 have HN:=Lib.hid hN
 have HNM : Hid (N ≤ maxLen):=by have:=th_max hr;show N ≤ maxLen;omega
 clear hr hN
 go_enter Try.func32,Try.ntmps32
 go_upto_region 1 with fail
 obtain ⟨W,hW⟩ : ∃ z : World,z = w:=⟨_,rfl⟩
 have b0 : Below W.heap.size W w:=by rw [hW];exact Below.refl _ _
 have HWW:=Lib.hid hW
 rw [← hW] at HG
 clear hW
 go_wp2
 go_loopw [3] (fun i wr=>∃ j : Nat,j ≤ N ∧ i = .int .i64 (j : Int) ∧ Below W.heap.size W wr) (fun i _=>N - (intOf i).toNat)
 case atStart=>exact ⟨0,Nat.zero_le _,rfl,b0⟩
 case round=>
  obtain ⟨j,hj,rfl,b2⟩:=hrel
  clear b0
  have bw : Below w.heap.size w wr:=by have:=HWW.out;subst this;exact b2
  by_cases hlt : j < N
  · by_cases h100 : j < 100
    rotate_left
    · go_wp2
      go_ret
      exact ⟨⟨_,rfl⟩,bw⟩
    have hlf : j < ts.length:=by have:=HN.out;omega
    obtain ⟨b,off,Ad,cd,Gd,ce,Bl,cb,L,lc,rfl,hc,_⟩:=th_at (HG.out.below b2) hlf
    generalize ts[j] = t at *
    have q4 : wr.cell? ⟨b,off + j * 18 + 4,none⟩ = some (.slice Ad (tAd t).length cd):=hc 4 (by decide)
    have q9 : wr.cell? ⟨b,off + j * 18 + 9,none⟩ = some (.slice Gd (tGd t).length ce):=hc 9 (by decide)
    have q10 : wr.cell? ⟨b,off + j * 18 + 10,none⟩ = some (.slice Bl (tBl t).length cb):=hc 10 (by decide)
    have q11 : wr.cell? ⟨b,off + j * 18 + 11,none⟩ = some (.int .u32 (lgA (tLg t) : Int)):=hc 11 (by decide)
    have q12 : wr.cell? ⟨b,off + j * 18 + 12,none⟩ = some (.int .u32 (lgQ (tLg t) : Int)):=hc 12 (by decide)
    have q13 : wr.cell? ⟨b,off + j * 18 + 13,none⟩ = some (.int .i64 (lgT (tLg t))):=hc 13 (by decide)
    have q14 : wr.cell? ⟨b,off + j * 18 + 14,none⟩ = some (.int .i64 (lgU (tLg t))):=hc 14 (by decide)
    have q15 : wr.cell? ⟨b,off + j * 18 + 15,none⟩ = some (.slice L (lgL (tLg t)).length lc):=hc 15 (by decide)
    have HWJ:=next_wrap HNM.out hlt
    have HLJ:=Lib.hid hlt
    generalize (tAd t).length = n1 at *
    generalize (tGd t).length = n2 at *
    generalize (tBl t).length = n3 at *
    generalize (lgL (tLg t)).length = n4 at *
    generalize lgA (tLg t) = a1 at *
    generalize lgQ (tLg t) = a2 at *
    generalize lgT (tLg t) = a3 at *
    generalize lgU (tLg t) = a4 at *
    clear hc hlf
    rcases Bool.eq_false_or_eq_true (decide ((5000 : Int) < (n1 : Int))) with e1 | e1
    · go_wp2
      go_ret
      exact ⟨⟨_,rfl⟩,bw⟩
    rcases Bool.eq_false_or_eq_true (decide ((1000 : Int) < (n2 : Int))) with e2 | e2
    · go_wp2
      go_ret
      exact ⟨⟨_,rfl⟩,bw⟩
    rcases Bool.eq_false_or_eq_true (decide ((100 : Int) < (n3 : Int))) with e3 | e3
    · go_wp2
      go_ret
      exact ⟨⟨_,rfl⟩,bw⟩
    go_wp2_with fail
    refine (lgreat_any a1 a2 a3 a4 L n4 lc wr).mono ?_
    rintro e w3 ⟨⟨gb,rfl⟩,b3⟩
    have b4:=Ext.trans b2 b3
    have bw4:=Ext.trans bw b3
    clear q4 q9 q10 q11 q12 q13 q14 q15
    cases gb with
    | true=>
      go_wp2
      go_ret
      exact ⟨⟨_,rfl⟩,bw4⟩
    | false=>
      go_wp2
      go_roundw
      case rel=>exact ⟨j + 1,HLJ.out,by first | rfl | exact round_same HWJ | go_num,b4⟩
      case measure=>first | exact round_less HWJ HLJ.out | (have h:=HLJ.out;simp [intOf];omega)
  · go_wp2
    go_ret
    exact ⟨⟨_,rfl⟩,bw⟩
end Go.Proofs.Ythapabjlhooglaa
namespace Go.Proofs.Ythapabjlhooglaa
open Go Go.RowKit
set_option linter.unusedSimpArgs false
set_option linter.unusedVariables false
theorem minfo_ask9 : ∃ i,Try.prog.info? 28 = some i ∧ i.zero = some (.agg #[.int .u8 0,.int .i64 0,.int .i64 0,.slice none 0 0]) ∧ i.size = 4 ∧ i.bytes = 48:=info_parts (by kernel_rfl)
theorem minfo_int9 : ∃ i,Try.prog.info? 3 = some i ∧ i.zero = some (.int .i64 0) ∧ i.size = 1 ∧ i.bytes = 8:=info_parts (by kernel_rfl)
def Asked (w : World) (base : Nat) (sa : Value) (av : List AskV) : Prop:=w.ownsRow base 28 4 sa av.length (av.map cellsA).flatten
def Whens (w : World) (base : Nat) (sw : Value) (wh : List Int) : Prop:=w.ownsRow base 3 1 sw wh.length (wh.map intV)
theorem rows_apart {w : World} {b1 b2 e1 e2 s1 s2 n1 n2 : Nat} {v u : Value} {xs ys : List Value} (h : w.ownsRow b1 e1 s1 v n1 xs) (k : w.ownsRow b2 e2 s2 u n2 ys) (he : e1 ≠ e2) : ∀ r,v.ownBlock = some r → u.ownBlock ≠ some r:=fun r hr hu=>by
 rcases h.2 with ⟨e,_⟩ | ⟨g,cap,cur,e,_,hb,_⟩
 · subst e;cases hr
 rcases k.2 with ⟨e',_⟩ | ⟨g',cap',cur',e',_,hb',_⟩
 · subst e';cases hu
 subst e e'
 have h1 : g = r:=Option.some.inj hr
 have h2 : g' = r:=Option.some.inj hu
 subst h1
 subst h2
 rw [hb] at hb'
 injection hb' with hb'
 injection hb' with _ h3 _
 exact he h3
structure StIs (x : Cfg) (b0 j : Nat) (ls : List FlTy.T) (av : List AskV) (wh : List Int) (l1 l2 : Nat) (sl sa sw : Value) (w : World) : Prop where
 ord : OrdL x ls av wh
 cnt : av.length ≤ j
 rng : b0 ≤ l1 ∧ l1 ≤ l2 ∧ l2 ≤ w.heap.size
 fls : RdIn w (Iv l1 l2) (.sl FlTy) ls [sl]
 ask : Asked w b0 sa av
 ask1 : ∀ r,sa.ownBlock = some r → ¬ Iv l1 l2 r
 whn : Whens w b0 sw wh
 whn1 : ∀ r,sw.ownBlock = some r → ¬ Iv l1 l2 r
structure Tell (x : Cfg) (b0 j : Nat) (ls : List FlTy.T) (av : List AskV) (wh : List Int) (yes : List FlTy.T) (k : Nat) (wk : List Int) (l1 l2 : Nat) (sl st sa sw : Value) (w : World) : Prop where
 step : Step x ls av wh yes
 who : WhTo wh yes k wk
 cnt : av.length ≤ j
 rng : b0 ≤ l1 ∧ l1 ≤ l2 ∧ l2 ≤ w.heap.size
 fls : RdIn w (Iv l1 l2) (.sl FlTy) ls [sl]
 tel : OwnE rpE w (Iv l1 l2) l1 63 st (yes.map rpOf)
 ask : Asked w b0 sa av
 ask1 : ∀ r,sa.ownBlock = some r → ¬ Iv l1 l2 r
 whn : Whens w b0 sw wk
 whn1 : ∀ r,sw.ownBlock = some r → ¬ Iv l1 l2 r
section
variable {x : Cfg} {b0 j : Nat} {ls : List FlTy.T} {av : List AskV} {wh wk : List Int} {yes : List FlTy.T} {k l1 l2 : Nat} {sl st sa sw : Value} {w w' : World}
theorem StIs.next (h : StIs x b0 j ls av wh l1 l2 sl sa sw w) (hb : Below w.heap.size w w') : StIs x b0 j ls av wh l1 l2 sl sa sw w':=
 { h with
  rng:=⟨h.rng.1,h.rng.2.1,Nat.le_trans h.rng.2.2 hb.size⟩
  fls:=h.fls.below hb
  ask:=own_next h.ask hb
  whn:=own_next h.whn hb }
theorem StIs.later (h : StIs x b0 j ls av wh l1 l2 sl sa sw w) : StIs x b0 (j + 1) ls av wh l1 l2 sl sa sw w:={ h with cnt:=Nat.le_succ_of_le h.cnt }
theorem Tell.next (h : Tell x b0 j ls av wh yes k wk l1 l2 sl st sa sw w) (hb : Below w.heap.size w w') : Tell x b0 j ls av wh yes k wk l1 l2 sl st sa sw w':=
 { h with
  rng:=⟨h.rng.1,h.rng.2.1,Nat.le_trans h.rng.2.2 hb.size⟩
  fls:=h.fls.below hb
  tel:=h.tel.next (fun b hb'=>Nat.lt_of_lt_of_le hb'.2 h.rng.2.2) hb
  ask:=own_next h.ask hb
  whn:=own_next h.whn hb }
theorem StIs.start (hx : x.Ok) : StIs x w.heap.size 0 [] [] [] w.heap.size w.heap.size (.slice none 0 0) (.slice none 0 0) (.slice none 0 0) w where
 ord:=OrdL.start hx
 cnt:=Nat.le_refl _
 rng:=⟨Nat.le_refl _,Nat.le_refl _,Nat.le_refl _⟩
 fls:=rdin_nilF _ _
 ask:=⟨rfl,.inl ⟨rfl,rfl⟩⟩
 ask1:=fun r h=>by cases h
 whn:=⟨rfl,.inl ⟨rfl,rfl⟩⟩
 whn1:=fun r h=>by cases h
theorem FlNew.iv {lo : Nat} {fs : List FlTy.T} {v : Value} (h : FlNew lo fs v w) (h8 : fs.length ≤ 8) : RdIn w (Iv lo w.heap.size) (.sl FlTy) fs [v]:=(h.rd (by omega)).mono fun b hb=>⟨hb.1,hb.2.1⟩
theorem Tell.of_new {os : List FlTy.T} {so : Value} (h : StIs x b0 j ls av wh l1 l2 sl sa sw w) (hb : Below w.heap.size w w') (hn : FlNew w.heap.size os so w') (ht : OwnE rpE w' (Iv w.heap.size w'.heap.size) w.heap.size 63 st (yes.map rpOf)) (hs : Step x os av wh yes) : Tell x b0 (j + 1) os av wh yes 0 wh w.heap.size w'.heap.size so st sa sw w' where
 step:=hs
 who:=WhTo.start
 cnt:=Nat.le_succ_of_le h.cnt
 rng:=⟨Nat.le_trans h.rng.1 (Nat.le_trans h.rng.2.1 h.rng.2.2),hb.size,Nat.le_refl _⟩
 fls:=hn.iv (flB_pw.1 hs.fl).2.1
 tel:=ht
 ask:=own_next h.ask hb
 ask1:=fun r hr hi=>by have:=own_lt h.ask hr;have:=hi.1;omega
 whn:=own_next h.whn hb
 whn1:=fun r hr hi=>by have:=own_lt h.whn hr;have:=hi.1;omega
theorem Tell.of_add {os : List FlTy.T} {so sa' sw' : Value} {v : AskV} {w2 w3 w4 : World} (h : StIs x b0 j ls av wh l1 l2 sl sa sw w) (hb : Below w.heap.size w w') (hn : FlNew w.heap.size os so w') (hs : Step x os (av ++ [v]) (wh ++ [-1]) [])
 (hc : Below w'.heap.size w' w2) (hA : w3.ownsRow b0 28 4 sa' (av.length + 1) ((av.map cellsA).flatten ++ cellsA v)) (gA : w2.grownBy w3 sa.ownBlock) (kA : sa'.ownBlock = sa.ownBlock ∨ sa'.ownBlock = some w2.heap.size)
 {w3' : World} (hd : Below w3.heap.size w3 w3') (hW : w4.ownsRow b0 3 1 sw' (wh.length + 1) (wh.map intV ++ [.int .i64 (-1)])) (gW : w3'.grownBy w4 sw.ownBlock) (kW : sw'.ownBlock = sw.ownBlock ∨ sw'.ownBlock = some w3'.heap.size) : Tell x b0 (j + 1) os (av ++ [v]) (wh ++ [-1]) [] 0 (wh ++ [-1]) w.heap.size w'.heap.size so (.slice none 0 0) sa' sw' w4:=by
 have sA : ∀ r,sa.ownBlock = some r → r < w.heap.size:=fun r hr=>own_lt h.ask hr
 have sW : ∀ r,sw.ownBlock = some r → r < w.heap.size:=fun r hr=>own_lt h.whn hr
 have hw2 : w'.heap.size ≤ w2.heap.size:=hc.size
 have hw3:=gA.size
 have hw3':=hd.size
 have hw4:=gW.size
 have F1:=hn.iv (flB_pw.1 hs.fl).2.1
 have F2:=F1.below hc
 have F3:=F2.grownBy gA fun b hb e=>by have:=sA b e;have:=hb.1;omega
 have F4:=F3.below hd
 have F5:=F4.grownBy gW fun b hb e=>by have:=sW b e;have:=hb.1;omega
 have hA':=own_next hA hd
 have lA : ∀ r,sa'.ownBlock = some r → ¬ Iv w.heap.size w'.heap.size r:=fun r hr hi=>by
  rcases kA with kA | kA
  · rw [kA] at hr;have:=sA r hr;have:=hi.1;omega
  · rw [kA] at hr;injection hr with hr;have:=hi.2;omega
 have lW : ∀ r,sw'.ownBlock = some r → ¬ Iv w.heap.size w'.heap.size r:=fun r hr hi=>by
  rcases kW with kW | kW
  · rw [kW] at hr;have:=sW r hr;have:=hi.1;omega
  · rw [kW] at hr;injection hr with hr;have:=hi.2;omega
 have W3 : w3.ownsRow b0 3 1 sw wh.length (wh.map intV):=own_frame (own_next (own_next h.whn hb) hc) fun r hr=>gA.block r (by have:=sW r hr;have:=hb.size;omega) fun e=>rows_apart h.ask h.whn (by decide) r e.symm hr
 have hA4 : w4.ownsRow b0 28 4 sa' (av.length + 1) ((av.map cellsA).flatten ++ cellsA v):=own_frame hA' fun r hr=>gW.block r (own_lt hA' hr) fun e=>rows_apart hA (W3) (by decide) r hr e.symm
 exact {
  step:=hs
  who:=WhTo.start
  cnt:=by rw [List.length_append];have:=h.cnt;simp;omega
  rng:=⟨Nat.le_trans h.rng.1 (Nat.le_trans h.rng.2.1 h.rng.2.2),hb.size,by omega⟩
  fls:=F5
  tel:=OwnE.nil _ _ _ _ _
  ask:=by
   have e : ((av ++ [v]).map cellsA).flatten = (av.map cellsA).flatten ++ cellsA v:=by rw [List.map_append,List.flatten_append];simp
   show w4.ownsRow _ _ _ _ (av ++ [v]).length ((av ++ [v]).map cellsA).flatten
   rw [e,List.length_append]
   exact hA4
  ask1:=lA
  whn:=by
   show w4.ownsRow _ _ _ _ (wh ++ [-1]).length ((wh ++ [-1]).map intV)
   rw [List.map_append,List.length_append]
   exact hW
  whn1:=lW }
theorem Tell.mark {g n c i : Nat} {r : Int} (h : Tell x b0 j ls av wh yes k wk l1 l2 sl st sa (.slice (some ⟨g,0,none⟩) n c) w) (hk : k < yes.length) (hi : i < wk.length) (e : fN yes[k] = (i : Int) + 1) (hr : 0 ≤ r) : Tell x b0 j ls av wh yes (k + 1) (wk.set i r) l1 l2 sl st sa (.slice (some ⟨g,0,none⟩) n c) (w.setCell ⟨g,i,none⟩ (.int .i64 r)):=by
 have hg : ¬ Iv l1 l2 g:=h.whn1 g rfl
 have hs : (w.setCell ⟨g,i,none⟩ (.int .i64 r)).heap.size = w.heap.size:=msize _ _ _
 exact { h with
  who:=h.who.next hk hi e hr
  rng:=by rw [hs];exact h.rng
  fls:=h.fls.frame fun b hb=>Below.heap_setCell _ _ _ _ (show b ≠ g from fun e=>hg (e ▸ hb))
  tel:=h.tel.setElse hg i _
  ask:=own_frame h.ask fun r' hr'=>Below.heap_setCell _ _ _ _ (show r' ≠ g from fun e=>rows_apart h.ask h.whn (by decide) r' hr' (by rw [e];rfl))
  whn:=by
   have h1 : w.ownsRow b0 3 1 (.slice (some ⟨g,0,none⟩) n c) wk.length (wk.map intV):=h.whn
   have hn : n = wk.length:=by
    rcases h1.2 with ⟨e,_⟩ | ⟨_,_,_,e,_⟩
    · cases e
    · injection e
   rw [hn] at h1 ⊢
   have h2:=own_setcell9 h1 (by omega) i (intV r)
   show World.ownsRow _ _ _ _ _ (wk.set i r).length ((wk.set i r).map intV)
   rw [List.length_set,List.map_set]
   exact h2 }
theorem Tell.done (h : Tell x b0 j ls av wh yes yes.length wk l1 l2 sl st sa sw w) : StIs x b0 j ls av wk l1 l2 sl sa sw w where
 ord:=h.who.done h.step
 cnt:=h.cnt
 rng:=h.rng
 fls:=h.fls
 ask:=h.ask
 ask1:=h.ask1
 whn:=h.whn
 whn1:=h.whn1
theorem tel_at {rs : List RpL} {F : Nat → Prop} {A : Option Addr} {n c base : Nat} (h : OwnE rpE w F base 63 (.slice A n c) rs) {j : Nat} (hj : j < rs.length) : ∃ (g : Nat),A = some ⟨g,0,none⟩ ∧ w.cell? ⟨g,j * 4,none⟩ = some (.int .i64 (rs[j]).1) ∧ w.cell? ⟨g,j * 4 + 3,none⟩ = some (.int .i64 (rs[j]).2.2):=by
 obtain ⟨g,cap,es,Sj,e,_,hc,⟨u,rfl,hu⟩,hS,_⟩:=OwnE.at h hj
 injection e with e1 _ _
 refine ⟨g,e1,?_,hc 3 (by decide)⟩
 have h0:=hc 0 (by decide)
 rw [Nat.add_zero] at h0
 exact h0
end
def CutIs (x : Cfg) (b0 j : Nat) (sl s7 s8 s11 s12 s13 : Value) (w : World) : Prop:=
 (∃ v : Int,v ≠ 0 ∧ s12 = .int .i64 v ∧ ∃ ls av wh l1 l2,StIs x b0 (j + 1) ls av wh l1 l2 sl s7 s8 w) ∨ (s12 = .int .i64 0 ∧ ∃ os av wh yes l1 l2,Tell x b0 (j + 1) os av wh yes 0 wh l1 l2 s11 s13 s7 s8 w)
end Go.Proofs.Ythapabjlhooglaa
namespace Go.Proofs.Ythapabjlhooglaa
open Go Go.RowKit
set_option linter.unusedSimpArgs false
set_option linter.unusedVariables false
theorem rd_asks2 {w : World} {b off : Nat} {av : List AskV} (h : Rd w (some ⟨b,off,none⟩) (av.map cellsA).flatten) {i : Nat} (hi : i < av.length) : ∀ p,p < 4 → w.cell? ⟨b,off + i * 4 + p,none⟩ = (cellsA av[i])[p]?:=fun p hp=>by
 obtain ⟨b',off',e,hc⟩:=rd_asks h hi
 injection e with e
 injection e with e1 e2 _
 subst e1 e2
 rw [Nat.add_assoc]
 exact hc p hp
set_option maxRecDepth 100000 in
set_option maxHeartbeats 16000000 in
theorem orderlaw_core (S : Nat → Prop) (x : Cfg) (ts : List ThTy.T) (N d : Nat) (B : Option Addr) (hN : ts.length = N) (w : World) (hr : RdIn w S (.sl ThTy) ts [.slice B N d]) :
 Calls Try.prog 7 #[x.val,.slice B N d] w fun e w'=>e = .returned (.bool true) ∧ Below w.heap.size w w':=by
 obtain ⟨ia,hia,ha0,ha1,ha2⟩:=minfo_ask9
 obtain ⟨ii,hii,hi0,hi1,hi2⟩:=minfo_int9
 have HNL:=Lib.hid hN
 have HNM : Hid (N ≤ maxLen):=by have:=th_max hr;show N ≤ maxLen;omega
 have HNB : Hid (N * 48 ≤ 140737488355328):=by
  obtain ⟨A,c,_,_,_,h4,_⟩:=list_view hr
  have h5 : (48 : Nat) ≤ ThTy.bytes:=by decide
  have h6 : N * 48 ≤ N * ThTy.bytes:=Nat.mul_le_mul_left N h5
  rw [hN] at h4
  show N * 48 ≤ _
  omega
 have HCK:=Lib.hid (fun (ls : List FlTy.T) (n c : Nat) (A : Option Addr) (hn : ls.length = n) (w : World) (hr : RdIn w (fun _=>True) (.sl FlTy) ls [.slice A n c])=>fcheck_any (fun _=>True) x ls n c A hn w hr)
 clear hN
 obtain ⟨id,m,c,r,l,h⟩:=x
 unfold Cfg.val at *
 dsimp only at *
 have C0:=BoxOf.new w #[.int .u32 (id : Int),.int .i64 m,.int .i64 c,.int .i64 r,.int .i64 l,.int .i64 h] 24
 have t0:=Ext.alloc (Below.refl w.heap.size w) (.cells #[.int .u32 (id : Int),.int .i64 m,.int .i64 c,.int .i64 r,.int .i64 l,.int .i64 h] 24)
 have HR:=Lib.hid (hr.below t0)
 clear hr
 go_enter Try.func7,Try.ntmps7
 go_upto_region 1 with fail
 generalize w.alloc (.cells #[.int .u32 (id : Int),.int .i64 m,.int .i64 c,.int .i64 r,.int .i64 l,.int .i64 h] 24) = W at *
 have x0:=C0.cell
 go_wp2_with fail
 refine (falive_any W).mono ?_
 rintro e w1 ⟨rfl,b1⟩
 have t1:=Ext.trans t0 b1
 have C1:=C0.next b1
 have HR1:=Lib.hid (HR.out.below b1)
 clear C0 HR t0 b1 x0
 have x1:=C1.cell
 go_wp2_with fail
 refine (long_any24 S ts N d B HNL.out w1 HR1.out).mono ?_
 rintro e w2 ⟨⟨gb,rfl⟩,b2⟩
 have t2:=Ext.trans t1 b2
 have C2:=C1.next b2
 have HR2:=Lib.hid (HR1.out.below b2)
 clear C1 HR1 t1 b2 x1
 have x2:=C2.cell
 cases gb with
 | true=>
   go_wp2
   go_ret
   exact ⟨rfl,t2⟩
 | false=>
 go_wp2_with fail
 refine (HCK.out [] 0 0 none rfl w2 (rdin_nilF _ _)).mono ?_
 rintro e w3 ⟨he,b3⟩
 have t3:=Ext.trans t2 b3
 have C3:=C2.next b3
 have HR3:=Lib.hid (HR2.out.below b3)
 clear C2 HR2 t2 b3 x2
 have x3:=C3.cell
 rcases okbad_cases he with ⟨hk,rfl⟩ | ⟨hk,rfl⟩
 rotate_left
 · clear he hk
   go_wp2
   go_ret
   exact ⟨rfl,t3⟩
 have HST : Hid (StIs (⟨id,m,c,r,l,h⟩ : Cfg) w3.heap.size 0 [] [] [] w3.heap.size w3.heap.size (.slice none 0 0) (.slice none 0 0) (.slice none 0 0) w3):=StIs.start (flB_pw.1 hk).1
 clear he hk
 go_wp2
 obtain ⟨w0,hw0⟩ : ∃ z : World,z = w3:=⟨_,rfl⟩
 have b0 : Below w0.heap.size w0 w3:=by rw [hw0];exact Below.refl _ _
 have HT0 : Hid (Below w.heap.size w w0):=by show Below _ _ _;rw [hw0];exact t3
 rw [← hw0] at HR3 C3
 rw [show StIs (⟨id,m,c,r,l,h⟩ : Cfg) w3.heap.size 0 [] [] [] w3.heap.size w3.heap.size (.slice none 0 0) (.slice none 0 0) (.slice none 0 0) w3 = StIs (⟨id,m,c,r,l,h⟩ : Cfg) w0.heap.size 0 [] [] [] w3.heap.size w3.heap.size (.slice none 0 0) (.slice none 0 0) (.slice none 0 0) w3 by rw [hw0]] at HST
 have HC0:=Lib.hid C3
 clear hw0 t3 x3 C3
 go_loopw [6,7,8,9] (fun sl sa sw si wr=>∃ (j : Nat) (ls : List FlTy.T) (av : List AskV) (wh : List Int) (l1 l2 : Nat),j ≤ N ∧ si = .int .i64 (j : Int) ∧ Below w0.heap.size w0 wr ∧ Hid (StIs (⟨id,m,c,r,l,h⟩ : Cfg) w0.heap.size j ls av wh l1 l2 sl sa sw wr)) (fun _ _ _ si _=>N - (intOf si).toNat)
 case atStart=>exact ⟨0,[],[],[],_,_,Nat.zero_le _,rfl,b0,HST.out⟩
 case round=>
  as_aux_lemma=>
  obtain ⟨j,ls,av,wh,l1,l2,hj,rfl,b4,HST⟩:=hrel
  clear b0
  by_cases hlt : j < N
  · have hjf : j < ts.length:=by have:=HNL.out;omega
    obtain ⟨b,off,Ad,cd,Gd,ce,Bl,cb,L,lc,rfl,hc,hp⟩:=th_at (HR3.out.below b4) hjf
    have HWJ:=next_wrap HNM.out hlt
    have HLJ:=Lib.hid hlt
    generalize ts[j]'hjf = t at *
    obtain ⟨kn,hkn⟩ : ∃ z : Nat,z = (tK t).toNat:=⟨_,rfl⟩
    rw [← hkn] at hc
    have hk256 : kn < 256:=by rw [hkn];exact UInt8.toNat_lt _
    obtain ⟨ca,hca⟩ : ∃ z : Array Value,z = (#[.int .u8 (kn : Int),.int .u8 ((tAk t).toNat : Int),.int .i64 (tAa t),.int .i64 (tAy t),.slice Ad (tAd t).length cd,.int .i64 (tGn t),.int .i64 (tGb t),.int .u8 ((tGs t).toNat : Int),.int .u32 (tGq t : Int),.slice Gd (tGd t).length ce,.slice Bl (tBl t).length cb,.int .u32 (lgA (tLg t) : Int),.int .u32 (lgQ (tLg t) : Int),.int .i64 (lgT (tLg t)),.int .i64 (lgU (tLg t)),.slice L (lgL (tLg t)).length lc,.bool (tBk t),.bool (tNl t)] : Array Value):=⟨_,rfl⟩
    have HCS:=Lib.hid hca
    rw [← hca] at hc
    have hsz : ca.size = 18:=by rw [hca];rfl
    have hlen : ca.toList.length = 18:=by rw [Array.length_toList];exact hsz
    have HONE : Hid (ca.all (·.oneCell') = true):=by show _ = _;rw [hca,← Array.all_toList];rfl
    have HLEN:=Lib.hid hlen
    have HSZ:=Lib.hid hsz
    have HRA : Hid (wr.rangeAt b (off + j * 18) ca.toList):=fun p v hv=>by
     have hp : p < 18:=by have:=(List.getElem?_eq_some_iff.1 hv).1;omega
     rw [hc p hp];exact hv
    have bA:=Ext.alloc (Below.refl wr.heap.size wr) (.cells ca 80)
    have T0:=BoxOf.new wr ca 80
    have HIN:=Lib.hid hp.1
    have HLG:=Lib.hid hp.2.1
    have HRD:=Lib.hid ((hp.2.2.1.below bA).mono (S':=fun _=>True) fun _ _=>trivial)
    have HRG:=Lib.hid ((hp.2.2.2.1.below bA).mono (S':=fun _=>True) fun _ _=>trivial)
    have HRB:=Lib.hid ((hp.2.2.2.2.1.below bA).mono (S':=fun _=>True) fun _ _=>trivial)
    have HRL:=Lib.hid ((hp.2.2.2.2.2.below bA).mono (S':=fun _=>True) fun _ _=>trivial)
    clear hc hp hjf hkn hca hlen hsz
    go_upto_region 10 with fail
    go_upto_region 11 with (first
     | (refine wpList_load_mid rfl 80 (.tmp 40) rfl b (off + j * 18) rfl ca.toList _ HRA.out Try.underlying80 rfl (by rw [HLEN.out];kernel_rfl) ?_;rw [Array.toArray_toList])
     | (refine Great.wpList_allocTo rfl (some 10) rfl (.pointer (some ⟨wr.heap.size,0,none⟩)) (.cells #[.int .u8 0,.int .u8 0,.int .i64 0,.int .i64 0,.slice none 0 0,.int .i64 0,.int .i64 0,.int .u8 0,.int .u32 0,.slice none 0 0,.slice none 0 0,.int .u32 0,.int .u32 0,.int .i64 0,.int .i64 0,.slice none 0 0,.bool false,.bool false] 80) (by kernel_rfl) ?_)
     | (refine wpList_store_row rfl 80 (.tmp 10) (.tmp 41) rfl wr.heap.size ca rfl rfl 80 #[.int .u8 0,.int .u8 0,.int .i64 0,.int .i64 0,.slice none 0 0,.int .i64 0,.int .i64 0,.int .u8 0,.int .u32 0,.slice none 0 0,.slice none 0 0,.int .u32 0,.int .u32 0,.int .i64 0,.int .i64 0,.slice none 0 0,.bool false,.bool false] (heap_alloc_new _ _) (by rw [HSZ.out];kernel_rfl) (by rw [HSZ.out];rfl) HONE.out ?_;rw [setRow_alloc]))
    generalize wr.alloc (.cells ca 80) = wb at *
    obtain ⟨gt,hgt⟩ : ∃ z : Nat,z = wr.heap.size:=⟨_,rfl⟩
    rw [← hgt] at T0 ⊢
    have b5:=Ext.trans b4 bA
    have HSB:=Lib.hid (HST.out.next bA)
    have HTC : Hid (∀ p,wb.cell? ⟨gt,p,none⟩ = (#[.int .u8 (kn : Int),.int .u8 ((tAk t).toNat : Int),.int .i64 (tAa t),.int .i64 (tAy t),.slice Ad (tAd t).length cd,.int .i64 (tGn t),.int .i64 (tGb t),.int .u8 ((tGs t).toNat : Int),.int .u32 (tGq t : Int),.slice Gd (tGd t).length ce,.slice Bl (tBl t).length cb,.int .u32 (lgA (tLg t) : Int),.int .u32 (lgQ (tLg t) : Int),.int .i64 (lgT (tLg t)),.int .i64 (lgU (tLg t)),.slice L (lgL (tLg t)).length lc,.bool (tBk t),.bool (tNl t)] : Array Value).toList[p]?):=fun p=>(T0.cell p).trans (by rw [HCS.out])
    have p0 : wb.cell? ⟨gt,0,none⟩ = some (.int .u8 (kn : Int)):=HTC.out 0
    clear b4 bA HST T0 hgt HRA
    clear HCS HONE HLEN HSZ
    go_upto_block 2 with fail
    have hkr : (kn : Int) % 4 = 0 ∨ (kn : Int) % 4 = 1 ∨ (kn : Int) % 4 = 2 ∨ (kn : Int) % 4 = 3:=by omega
    clear p0 hk256
    generalize (kn : Int) % 4 = kr at *
    have HCF:=HSB.out.fls
    obtain ⟨Al,cl,hsl⟩:=sl_deep HCF
    obtain ⟨Aa,ck,hsa,_⟩:=own_rd HSB.out.ask
    obtain ⟨Aw,cw,hsw,_⟩:=own_rd HSB.out.whn
    subst hsl hsa hsw
    have HRF : Hid (RdIn wb (fun _=>True) (.sl FlTy) ls [.slice Al ls.length cl]):=HCF.mono fun _ _=>trivial
    have CB:=HC0.out.next b5
    clear HCF
    go_cut [7,8,11,12,13] (fun s7 s8 s11 s12 s13 wx=>Below w0.heap.size w0 wx ∧ CutIs (⟨id,m,c,r,l,h⟩ : Cfg) w0.heap.size j (.slice Al ls.length cl) s7 s8 s11 s12 s13 wx)
    case first=>
     as_aux_lemma=>
     have x5:=CB.cell
     rcases hkr with rfl | rfl | rfl | rfl
     · as_aux_lemma=>
       have p1 : wb.cell? ⟨gt,1,none⟩ = some (.int .u8 ((tAk t).toNat : Int)):=HTC.out 1
       have p2 : wb.cell? ⟨gt,2,none⟩ = some (.int .i64 (tAa t)):=HTC.out 2
       have p3 : wb.cell? ⟨gt,3,none⟩ = some (.int .i64 (tAy t)):=HTC.out 3
       have p4 : wb.cell? ⟨gt,4,none⟩ = some (.slice Ad (tAd t).length cd):=HTC.out 4
       have p8 : wb.cell? ⟨gt,8,none⟩ = some (.int .u32 (tGq t : Int)):=HTC.out 8
       have halN : av.length < N:=by have:=HSB.out.cnt;have:=HLJ.out;omega
       obtain ⟨nn,hnn⟩ : ∃ z : Int,z = (av.length : Int) + 1:=⟨_,rfl⟩
       have hni : IsInt nn:=by have h1:=HNM.out;unfold maxLen at h1;constructor <;> omega
       have hwa : wrap64 ((av.length : Int) + 1) = nn:=by rw [hnn];exact IntWalk.wrap64_in _ (by have h1:=HNM.out;unfold maxLen at h1;omega)
       obtain ⟨os,ov,hP⟩ : ∃ os ov,addP (⟨id,m,c,r,l,h⟩ : Cfg) ls nn (tAk t) (tAa t) (tAy t) (tAd t) (tGq t) = (os,ov):=⟨_,_,rfl⟩
       have HAD:=Lib.hid (fadd_any (fun _=>True) (⟨id,m,c,r,l,h⟩ : Cfg) ls ls.length cl Al rfl nn hni (tAk t) (tAa t) (tAy t) Ad cd (tAd t) (tGq t) HIN.out.2.2.2.2 wb HRF.out HRD.out)
       rw [hP] at HAD
       have HPP : Hid (addP (⟨id,m,c,r,l,h⟩ : Cfg) ls ((av.length : Int) + 1) (tAk t) (tAa t) (tAy t) (tAd t) (tGq t) = (os,ov)):=by show _ = _;rw [← hnn];exact hP
       have HAL : Hid (av.length < N ∧ wh.length = av.length):=⟨halN,HSB.out.ord.len.symm⟩
       clear hnn hni hP halN
       go_wp2_with fail
       refine HAD.out.mono ?_
       rintro e w2 ⟨hres,b6⟩
       obtain ⟨A2,c2,rfl,fn⟩:=hres.of rfl rfl
       have q1 : w2.cell? ⟨gt,1,none⟩ = some (.int .u8 ((tAk t).toNat : Int)):=by rw [b6.cell (p:=⟨gt,1,none⟩) (cell_lt p1)];exact p1
       have q2 : w2.cell? ⟨gt,2,none⟩ = some (.int .i64 (tAa t)):=by rw [b6.cell (p:=⟨gt,2,none⟩) (cell_lt p2)];exact p2
       have q3 : w2.cell? ⟨gt,3,none⟩ = some (.int .i64 (tAy t)):=by rw [b6.cell (p:=⟨gt,3,none⟩) (cell_lt p3)];exact p3
       have q4 : w2.cell? ⟨gt,4,none⟩ = some (.slice Ad (tAd t).length cd):=by rw [b6.cell (p:=⟨gt,4,none⟩) (cell_lt p4)];exact p4
       have t6:=Ext.trans b5 b6
       have HFN:=Lib.hid fn
       have HB6:=Lib.hid b6
       clear p1 p2 p3 p4 p8 x5 HAD hres fn hwa b6
       by_cases hv : ov = 0
       rotate_left
       · have e1 : (ov == 0) = false:=by simpa using hv
         go_wp2_with fail
         go_meet
         exact ⟨t6,.inl ⟨ov,hv,rfl,ls,av,wh,l1,l2,(HSB.out.next HB6.out).later⟩⟩
       subst hv
       have HSTP : Hid (Step (⟨id,m,c,r,l,h⟩ : Cfg) os (av ++ [⟨tAk t,tAa t,tAy t,Ad,(tAd t).length,cd⟩]) (wh ++ [-1]) []):=by
        have h1:=OrdL.add HSB.out.ord (v:=⟨tAk t,tAa t,tAy t,Ad,(tAd t).length,cd⟩) (bs:=tAd t) (last:=tGq t) rfl (by show (addP _ _ _ _ _ _ _ _).2 = 0;rw [HPP.out])
        have h2 : (addP (⟨id,m,c,r,l,h⟩ : Cfg) ls ((av.length : Int) + 1) (tAk t) (tAa t) (tAy t) (tAd t) (tGq t)).1 = os:=by rw [HPP.out]
        have h3:=Step.none h1
        rw [h2] at h3
        exact h3
       go_upto_region 18 with fail
       have c1:=Ext.alloc (Below.refl w2.heap.size w2) (.cells #[.int .u8 ((tAk t).toNat : Int),.int .i64 (tAa t),.int .i64 (tAy t),.slice Ad (tAd t).length cd] 28)
       have rdA:=rd_row w2 #[.int .u8 ((tAk t).toNat : Int),.int .i64 (tAa t),.int .i64 (tAy t),.slice Ad (tAd t).length cd] 28
       have OA:=Lib.hid (own_next (own_next HSB.out.ask HB6.out) c1)
       unfold Asked at OA
       have HBY : Hid (av.length + 1 ≤ maxLen ∧ (av.length + 1) * 48 ≤ 140737488355328):=by
        have h1:=HAL.out.1
        have h2:=HNB.out
        have h3:=HNM.out
        show _ ∧ _
        omega
       have HSA : Hid (w0.heap.size ≤ (w2.alloc (.cells #[.int .u8 ((tAk t).toNat : Int),.int .i64 (tAa t),.int .i64 (tAy t),.slice Ad (tAd t).length cd] 28)).heap.size):=Nat.le_trans t6.size c1.size
       have HC1:=Lib.hid c1
       clear c1
       go_upto_region 19 with (at_builtin;refine wpList_append_rd _ rfl (.tmp 77) (.tmp 80) 77 rfl w0.heap.size 28 ia _ 4 48 Try.underlying77 hia ha0 ha1 ha2 rfl (by decide) _ av.length (av.map cellsA).flatten rfl OA.out (some ⟨w2.heap.size,0,none⟩) 1 1 (#[.int .u8 ((tAk t).toNat : Int),.int .i64 (tAa t),.int .i64 (tAy t),.slice Ad (tAd t).length cd] : Array Value).toList rfl rfl rdA (by intro u hu;simp only [List.mem_cons,List.not_mem_nil,or_false] at hu;rcases hu with rfl | rfl | rfl | rfl <;> rfl) HBY.out.1 HBY.out.2 HSA.out ?_;intro s7 w3 own3 g3 k3;obtain ⟨A7,c7,rfl⟩:=own_form own3;have HO3:=Lib.hid own3;have HG3:=Lib.hid (And.intro g3 k3);clear own3 g3 k3)
       have c3:=Ext.alloc (Below.refl w3.heap.size w3) (.cells #[.int .i64 (-1)] 3)
       have rdW:=rd_row w3 #[.int .i64 (-1)] 3
       have OW : Hid ((w3.alloc (.cells #[.int .i64 (-1)] 3)).ownsRow w0.heap.size 3 1 (.slice Aw wh.length cw) wh.length (wh.map intV)):=own_next (own_frame (own_next (own_next HSB.out.whn HB6.out) HC1.out) fun r hr=>HG3.out.1.block r (by have h1:=own_lt HSB.out.whn hr;have:=HB6.out.size;have:=HC1.out.size;omega) fun e=>rows_apart HSB.out.ask HSB.out.whn (by decide) r e.symm hr) c3
       have HBZ : Hid (wh.length + 1 ≤ maxLen ∧ (wh.length + 1) * 8 ≤ 140737488355328):=by
        have h0:=HAL.out
        have h2:=HNB.out
        have h3:=HNM.out
        show _ ∧ _
        omega
       have HSZ : Hid (w0.heap.size ≤ (w3.alloc (.cells #[.int .i64 (-1)] 3)).heap.size):=Nat.le_trans HSA.out (Nat.le_trans HG3.out.1.size c3.size)
       have HC3:=Lib.hid c3
       clear c3 q1 q2 q3 q4 rdA
       go_wp2_with (at_builtin;refine wpList_append_rd _ rfl (.tmp 82) (.tmp 83) 78 rfl w0.heap.size 3 ii _ 1 8 Try.underlying78 hii hi0 hi1 hi2 rfl (by decide) _ wh.length (wh.map intV) rfl OW.out (some ⟨w3.heap.size,0,none⟩) 1 1 [.int .i64 (-1)] rfl rfl rdW (by intro u hu;simp only [List.mem_cons,List.not_mem_nil,or_false] at hu;rcases hu with rfl;rfl) HBZ.out.1 HBZ.out.2 HSZ.out ?_;intro s8 w4 own4 g4 k4;obtain ⟨A8,c8,rfl⟩:=own_form own4;have HO4:=Lib.hid own4;have HG4:=Lib.hid (And.intro g4 k4);clear own4 g4 k4)
       go_meet
       refine ⟨?_,.inr ⟨rfl,os,av ++ [⟨tAk t,tAa t,tAy t,Ad,(tAd t).length,cd⟩],wh ++ [-1],[],_,_,Tell.of_add HSB.out HB6.out HFN.out HSTP.out HC1.out HO3.out HG3.out.1 HG3.out.2 HC3.out HO4.out HG4.out.1 HG4.out.2⟩⟩
       have z1:=Ext.trans t6 HC1.out
       have z2:=Below.grown z1 HG3.out.1 z1.size (fun r e=>own_block HSB.out.ask e)
       have z3:=Ext.trans z2 HC3.out
       exact Below.grown z3 HG4.out.1 z3.size (fun r e=>own_block HSB.out.whn e)
     · as_aux_lemma=>
       have p5 : wb.cell? ⟨gt,5,none⟩ = some (.int .i64 (tGn t)):=HTC.out 5
       have p6 : wb.cell? ⟨gt,6,none⟩ = some (.int .i64 (tGb t)):=HTC.out 6
       have p7 : wb.cell? ⟨gt,7,none⟩ = some (.int .u8 ((tGs t).toNat : Int)):=HTC.out 7
       have p8 : wb.cell? ⟨gt,8,none⟩ = some (.int .u32 (tGq t : Int)):=HTC.out 8
       have p9 : wb.cell? ⟨gt,9,none⟩ = some (.slice Gd (tGd t).length ce):=HTC.out 9
       obtain ⟨os,ov,hP⟩ : ∃ os ov,goP (⟨id,m,c,r,l,h⟩ : Cfg) ls (tGn t) (tGb t) (tGs t) (tGq t) (tGd t) = (os,ov):=⟨_,_,rfl⟩
       have HAD:=Lib.hid (fgo_any (fun _=>True) (⟨id,m,c,r,l,h⟩ : Cfg) ls ls.length cl Al rfl (tGn t) (tGb t) HIN.out.2.2.2.1 (tGs t) (tGq t) HIN.out.2.2.2.2 Gd ce (tGd t) wb HRF.out HRG.out)
       rw [hP] at HAD
       have HPP:=Lib.hid hP
       clear hP
       go_wp2_with fail
       refine HAD.out.mono ?_
       rintro e w2 ⟨hres,b6⟩
       obtain ⟨A2,c2,rfl,fn⟩:=hres.of rfl rfl
       have t6:=Ext.trans b5 b6
       have HFN:=Lib.hid fn
       have HB6:=Lib.hid b6
       clear p5 p6 p7 p8 p9 x5 HAD hres fn b6
       go_wp2_with fail
       go_meet
       refine ⟨t6,?_⟩
       by_cases hv : ov = 0
       · subst hv
         have h1:=go_ok (x:=(⟨id,m,c,r,l,h⟩ : Cfg)) (fs:=ls) (n:=tGn t) (b:=tGb t) (s:=tGs t) (q:=tGq t) (dat:=tGd t) (by rw [HPP.out])
         rw [HPP.out] at h1
         exact .inr ⟨rfl,os,av,wh,[],_,_,Tell.of_new HSB.out HB6.out HFN.out (OwnE.nil _ _ _ _ _) (Step.none (HSB.out.ord.same h1.1 h1.2))⟩
       · exact .inl ⟨ov,hv,rfl,ls,av,wh,l1,l2,(HSB.out.next HB6.out).later⟩
     · as_aux_lemma=>
       have p8 : wb.cell? ⟨gt,8,none⟩ = some (.int .u32 (tGq t : Int)):=HTC.out 8
       have p10 : wb.cell? ⟨gt,10,none⟩ = some (.slice Bl (tBl t).length cb):=HTC.out 10
       obtain ⟨os,ov,hP⟩ : ∃ os ov,dealP (⟨id,m,c,r,l,h⟩ : Cfg) ls (tBl t) (tGq t) = (os,ov):=⟨_,_,rfl⟩
       have HAD:=Lib.hid (fdeal_any (fun _=>True) (fun _=>True) (⟨id,m,c,r,l,h⟩ : Cfg) ls ls.length cl Al rfl (tBl t) (tBl t).length cb Bl rfl (tGq t) HIN.out.2.2.2.2 wb HRF.out HRB.out)
       rw [hP] at HAD
       have HPP:=Lib.hid hP
       clear hP
       go_wp2_with fail
       refine HAD.out.mono ?_
       rintro e w2 ⟨hres,b6⟩
       obtain ⟨A2,c2,rfl,fn⟩:=hres.of rfl rfl
       have t6:=Ext.trans b5 b6
       have HFN:=Lib.hid fn
       have HB6:=Lib.hid b6
       clear p8 p10 x5 HAD hres fn b6
       go_wp2_with fail
       go_meet
       refine ⟨t6,?_⟩
       by_cases hv : ov = 0
       · subst hv
         have h1:=deal_ok (x:=(⟨id,m,c,r,l,h⟩ : Cfg)) (fs:=ls) (bl:=tBl t) (q:=tGq t) (by rw [HPP.out])
         rw [HPP.out] at h1
         exact .inr ⟨rfl,os,av,wh,[],_,_,Tell.of_new HSB.out HB6.out HFN.out (OwnE.nil _ _ _ _ _) (Step.none (HSB.out.ord.same h1.1 h1.2))⟩
       · exact .inl ⟨ov,hv,rfl,ls,av,wh,l1,l2,(HSB.out.next HB6.out).later⟩
     · as_aux_lemma=>
       have p11 : wb.cell? ⟨gt,11,none⟩ = some (.int .u32 (lgA (tLg t) : Int)):=HTC.out 11
       have p12 : wb.cell? ⟨gt,12,none⟩ = some (.int .u32 (lgQ (tLg t) : Int)):=HTC.out 12
       have p13 : wb.cell? ⟨gt,13,none⟩ = some (.int .i64 (lgT (tLg t))):=HTC.out 13
       have p14 : wb.cell? ⟨gt,14,none⟩ = some (.int .i64 (lgU (tLg t))):=HTC.out 14
       have p15 : wb.cell? ⟨gt,15,none⟩ = some (.slice L (lgL (tLg t)).length lc):=HTC.out 15
       have p16 : wb.cell? ⟨gt,16,none⟩ = some (.bool (tBk t)):=HTC.out 16
       have p17 : wb.cell? ⟨gt,17,none⟩ = some (.bool (tNl t)):=HTC.out 17
       obtain ⟨os,rs,ov,hP⟩ : ∃ os rs ov,doneP (⟨id,m,c,r,l,h⟩ : Cfg) ls (lgA (tLg t)) (lgQ (tLg t)) (lgT (tLg t)) (lgU (tLg t)) (lgL (tLg t)) (tBk t) (tNl t) = (os,rs,ov):=⟨_,_,_,rfl⟩
       have HAD:=Lib.hid (fdone_any (fun _=>True) (fun _=>True) (⟨id,m,c,r,l,h⟩ : Cfg) ls ls.length cl Al rfl (lgL (tLg t)) (lgL (tLg t)).length lc L rfl (lgA (tLg t)) (lgQ (tLg t)) HLG.out.1 HLG.out.2.1 (lgT (tLg t)) (lgU (tLg t)) HLG.out.2.2.1 HLG.out.2.2.2 (tBk t) (tNl t) wb HRF.out HRL.out)
       rw [hP] at HAD
       have HPP:=Lib.hid hP
       clear hP
       generalize lgA (tLg t) = ga at *
       generalize lgQ (tLg t) = gq at *
       generalize lgT (tLg t) = gt9 at *
       generalize lgU (tLg t) = gu at *
       generalize lgL (tLg t) = vs at *
       go_wp2_with fail
       refine HAD.out.mono ?_
       rintro e w2 ⟨hres,b6⟩
       obtain ⟨A2,c2,A3,c3,rfl,fn,tl⟩:=hres.of rfl rfl rfl
       have t6:=Ext.trans b5 b6
       have HFN:=Lib.hid fn
       have HTL:=Lib.hid tl
       have HB6:=Lib.hid b6
       clear p11 p12 p13 p14 p15 p16 p17 x5 HAD hres fn tl b6
       go_wp2_with fail
       go_meet
       refine ⟨t6,?_⟩
       have h1:=HPP.out
       unfold doneP at h1
       rw [if_pos HSB.out.ord.fl] at h1
       by_cases hlb : (decide (Cfg.Ok (⟨id,m,c,r,l,h⟩ : Cfg)) && logR (Cfg.m (⟨id,m,c,r,l,h⟩ : Cfg)) (Cfg.c (⟨id,m,c,r,l,h⟩ : Cfg)) (Cfg.r (⟨id,m,c,r,l,h⟩ : Cfg)) (Cfg.l (⟨id,m,c,r,l,h⟩ : Cfg)) ga gq gt9 gu vs) = true
       · rw [if_pos hlb] at h1
         injection h1 with h1 h2
         injection h2 with h2 h3
         subst h1 h2 h3
         exact .inr ⟨rfl,_,av,wh,_,_,_,Tell.of_new HSB.out HB6.out HFN.out HTL.out (Step.done HSB.out.ord vs (tBk t) (tNl t))⟩
       · rw [if_neg hlb] at h1
         injection h1 with h1 h2
         injection h2 with h2 h3
         subst h3
         exact .inl ⟨8,by decide,rfl,ls,av,wh,l1,l2,(HSB.out.next HB6.out).later⟩
    case rest=>
    as_aux_lemma=>
    obtain ⟨bx,hct⟩:=hcut
    clear CB HRF HTC HIN HLG HRD HRG HRB HRL HSB b5 hkr
    rcases hct with ⟨v,hv,rfl,ls2,av2,wh2,k1,k2,HS2⟩ | ⟨rfl,os,av2,wh2,yes,k1,k2,HT⟩
    · have HS9:=Lib.hid HS2
      have e1 : (v != 0) = true:=by simpa using hv
      clear HS2 hv
      go_wp2
      go_roundw
      case rel=>exact ⟨j + 1,ls2,av2,wh2,k1,k2,HLJ.out,by first | rfl | exact round_same HWJ | go_num,bx,HS9.out⟩
      case measure=>first | exact round_less HWJ HLJ.out | (have h:=HLJ.out;simp [intOf];omega)
    · obtain ⟨A1,c1,hs1⟩:=sl_deep HT.fls
      obtain ⟨A3,c3,hs3⟩:=OwnE.slice HT.tel
      obtain ⟨Aa,ck,hsa,_⟩:=own_rd HT.ask
      obtain ⟨Aw,cw,hsw,_⟩:=own_rd HT.whn
      subst hs1 hs3 hsa hsw
      obtain ⟨M,hM⟩ : ∃ z : Nat,z = (yes.map rpOf).length:=⟨_,rfl⟩
      have HM : Hid (M = yes.length):=by show _ = _;rw [hM,List.length_map]
      have HMM : Hid (M ≤ maxLen):=by
       obtain ⟨_,_,ho⟩:=HT.tel.own
       show M ≤ maxLen
       rw [hM]
       rcases ho.2 with ⟨_,h0⟩ | ⟨_,_,_,_,_,_,h3,h4,_⟩
       · rw [h0];exact Nat.zero_le _
       · exact Nat.le_trans h3 h4
      rw [← hM] at HT
      rw [← hM]
      have HTT:=Lib.hid HT
      clear HT hM
      go_wp2
      go_loopw [14] (fun i wr=>∃ (k : Nat) (wk : List Int),k ≤ M ∧ i = .int .i64 (k : Int) ∧ Below w0.heap.size w0 wr ∧ Hid (Tell (⟨id,m,c,r,l,h⟩ : Cfg) w0.heap.size (j + 1) os av2 wh2 yes k wk k1 k2 (.slice A1 os.length c1) (.slice A3 M c3) (.slice Aa av2.length ck) (.slice Aw wh2.length cw) wr)) (fun i _=>M - (intOf i).toNat)
      case atStart=>exact ⟨0,wh2,Nat.zero_le _,rfl,bx,HTT.out⟩
      case round=>
       as_aux_lemma=>
       obtain ⟨k,wk,hk,rfl,b6,HT⟩:=hrel
       clear bx HTT
       by_cases hlk : k < M
       · as_aux_lemma=>
         have hky : k < yes.length:=by have:=HM.out;omega
         obtain ⟨i,hi,ha,e,hwi,hmy⟩:=HT.out.who.at HT.out.step hky
         obtain ⟨g3,hA3,d0,d3⟩:=tel_at HT.out.tel (j:=k) (by rw [List.length_map];exact hky)
         subst hA3
         obtain ⟨nn,hnn⟩ : ∃ z : Int,z = (i : Int) + 1:=⟨_,rfl⟩
         replace d0 : wr.cell? ⟨g3,k * 4,none⟩ = some (.int .i64 nn):=by rw [d0,List.getElem_map];show some (Value.int .i64 (fN yes[k])) = _;rw [e,hnn]
         replace d3 : wr.cell? ⟨g3,k * 4 + 3,none⟩ = some (.int .i64 av2[i].y):=by rw [d3,List.getElem_map];show some (Value.int .i64 (fM yes[k])) = _;rw [hmy]
         obtain ⟨gw,capw,cur,ew,hgw,BW,_,_,_,hcw⟩:=own_view HT.out.whn (by omega)
         injection ew with ew1 ew2 ew3
         subst ew1 ew3
         have kw : wr.cell? ⟨gw,i,none⟩ = some (.int .i64 wk[i]):=by rw [BW.cell,hcw i (by omega),List.getElem?_map,List.getElem?_eq_getElem hi];rfl
         obtain ⟨A',c',eA,_,RA⟩:=own_rd HT.out.ask
         injection eA with eA _ eA3
         subst eA eA3
         obtain ⟨ba,oa,hAa,ka⟩:=rd_asks RA ha
         subst hAa
         have ka2 : wr.cell? ⟨ba,oa + i * 4 + 2,none⟩ = some (.int .i64 av2[i].y):=by have h9:=ka 2 (by decide);rw [← Nat.add_assoc] at h9;exact h9
         have HRA:=Lib.hid RA
         have HE:=Lib.hid e
         have HI : Hid (i < wk.length ∧ i < av2.length ∧ k < yes.length ∧ wk.length = wh2.length ∧ w0.heap.size ≤ gw ∧ av2.length < N + 1):=⟨hi,ha,hky,ew2.symm,hgw,by have:=HT.out.cnt;have:=HLJ.out;omega⟩
         have hil : i < av2.length:=ha
         have hiw : i < wh2.length:=by omega
         obtain ⟨zz,hzz⟩ : ∃ z : Int,z = wk[i]:=⟨_,rfl⟩
         rw [← hzz] at kw hwi
         generalize av2[i].y = yy at *
         have hw1 : IntKind.i64.wrap (nn - 1) = (i : Int):=by
          have h1:=HNM.out
          unfold maxLen at h1
          have h2 : av2.length < N + 1:=HI.out.2.2.2.2.2
          rw [IntKind.wrap_i64,hnn]
          have h3:=IntWalk.wrap64_in ((i : Int) + 1 - 1) (by omega)
          unfold wrap64 at h3
          rw [h3]
          omega
         have hw2 : wrap64 (nn - 1) = (i : Int):=by rw [IntKind.wrap_i64] at hw1;unfold wrap64;exact hw1
         have f1 : ¬ nn < 1:=by omega
         have f2 : ¬ (av2.length : Int) < nn:=by omega
         have f3 : ¬ 0 ≤ zz:=by omega
         have HNN:=Lib.hid hnn
         have HKF:=Lib.hid BW
         have HWV:=Lib.hid hcw
         clear hnn e hwi hmy ka RA hcw BW hgw ew2 hzz
         go_upto_region 29 with fail
         have HSX : Hid (∀ w',Below wr.heap.size wr w' → (Below wr.heap.size wr w' ∧ w'.cell? ⟨g3,k * 4 + 3,none⟩ = some (.int .i64 yy) ∧ w'.cell? ⟨gw,i,none⟩ = some (.int .i64 zz) ∧ w'.cell? ⟨ba,oa + i * 4 + 2,none⟩ = some (.int .i64 yy))):=fun w' bb=>⟨bb,by rw [bb.cell (p:=⟨g3,k * 4 + 3,none⟩) (cell_lt d3)];exact d3,by rw [bb.cell (p:=⟨gw,i,none⟩) (cell_lt kw)];exact kw,by rw [bb.cell (p:=⟨ba,oa + i * 4 + 2,none⟩) (cell_lt ka2)];exact ka2⟩
         have HSD:=HSX.out _ (Ext.drew (Below.refl wr.heap.size wr))
         clear d0 d3 ka2 kw
         refine wp_region_held_drew (S:=fun w'=>Below wr.heap.size wr w' ∧ w'.cell? ⟨g3,k * 4 + 3,none⟩ = some (.int .i64 yy) ∧ w'.cell? ⟨gw,i,none⟩ = some (.int .i64 zz) ∧ w'.cell? ⟨ba,oa + i * 4 + 2,none⟩ = some (.int .i64 yy)) (by kernel_rfl) HSD (fun hS=>?_)
         clear HSD
         refine wpAnyH_take (i:=0) (v:=?_) rfl (by kernel_rfl) (by kernel_rfl) (by kernel_rfl) (fun _ _ _ h=>h) (Or.inl ⟨by rfl,?_⟩) hS ?_
         rotate_left
         · (intro w hSw;(try dsimp only at hSw);go_simp;(try with_reducible rfl))
         rotate_left
         simp only [Act.put,zq0,zq1,zq2,zq3,zq4,zq5]
         refine wpAnyH_take (i:=1) (v:=?_) rfl (by kernel_rfl) (by kernel_rfl) (by kernel_rfl) (fun _ _ _ h=>h) (Or.inl ⟨by rfl,?_⟩) hS ?_
         rotate_left
         · (intro w hSw;(try dsimp only at hSw);go_simp;(try with_reducible rfl))
         rotate_left
         simp only [Act.put,zq0,zq1,zq2,zq3,zq4,zq5]
         refine wpAnyH_take (i:=2) (v:=?_) rfl (by kernel_rfl) (by kernel_rfl) (by kernel_rfl) (fun _ _ _ h=>h) (Or.inl ⟨by rfl,?_⟩) hS ?_
         rotate_left
         · (intro w hSw;(try dsimp only at hSw);go_simp;(try with_reducible rfl))
         rotate_left
         simp only [Act.put,zq0,zq1,zq2,zq3,zq4,zq5]
         refine wpAnyH_take (i:=3) (v:=?_) rfl (by kernel_rfl) (by kernel_rfl) (by kernel_rfl) (fun _ _ _ h=>h) (Or.inl ⟨by rfl,?_⟩) hS ?_
         rotate_left
         · (intro w hSw;(try dsimp only at hSw);go_simp;(try with_reducible rfl))
         rotate_left
         simp only [Act.put,zq0,zq1,zq2,zq3,zq4,zq5]
         refine wpAnyH_take (i:=4) (v:=?_) rfl (by kernel_rfl) (by kernel_rfl) (by kernel_rfl) (fun _ _ _ h=>h) (Or.inl ⟨by rfl,?_⟩) hS ?_
         rotate_left
         · (intro w hSw;(try dsimp only at hSw);go_simp;(try with_reducible rfl))
         rotate_left
         simp only [Act.put,zq0,zq1,zq2,zq3,zq4,zq5]
         refine wpAnyH_take (i:=5) (v:=?_) rfl (by kernel_rfl) (by kernel_rfl) (by kernel_rfl) (fun _ _ _ h=>h) (Or.inl ⟨by rfl,?_⟩) hS ?_
         rotate_left
         · (intro w hSw;(try dsimp only at hSw);go_simp;(try with_reducible rfl))
         rotate_left
         simp only [Act.put,zq0,zq1,zq2,zq3,zq4,zq5]
         refine wpAnyH_take (i:=6) (v:=?_) rfl (by kernel_rfl) (by kernel_rfl) (by kernel_rfl) (fun _ _ _ h=>h) (Or.inl ⟨by rfl,?_⟩) hS ?_
         rotate_left
         · (intro w hSw;(try dsimp only at hSw);go_simp;(try with_reducible rfl))
         rotate_left
         simp only [Act.put,zq0,zq1,zq2,zq3,zq4,zq5]
         refine wpAnyH_take (i:=7) (v:=?_) rfl (by kernel_rfl) (by kernel_rfl) (by kernel_rfl) (fun _ _ _ h=>h) (Or.inl ⟨by rfl,?_⟩) hS ?_
         rotate_left
         · (intro w hSw;(try dsimp only at hSw);go_simp;(try with_reducible rfl))
         rotate_left
         simp only [Act.put,zq0,zq1,zq2,zq3,zq4,zq5]
         refine wpAnyH_take (i:=8) (v:=?_) rfl (by kernel_rfl) (by kernel_rfl) (by kernel_rfl) (fun _ _ _ h=>h) (Or.inl ⟨by rfl,?_⟩) hS ?_
         rotate_left
         · (intro w hSw;(try dsimp only at hSw);go_simp;(try with_reducible rfl))
         rotate_left
         simp only [Act.put,zq0,zq1,zq2,zq3,zq4,zq5]
         refine wpAnyH_take (i:=9) (v:=?_) rfl (by kernel_rfl) (by kernel_rfl) (by kernel_rfl) (fun _ _ _ h=>h) (Or.inl ⟨by rfl,?_⟩) hS ?_
         rotate_left
         · (intro w hSw;(try dsimp only at hSw);go_simp;(try with_reducible rfl))
         rotate_left
         simp only [Act.put,zq0,zq1,zq2,zq3,zq4,zq5]
         refine wpAnyH_take (i:=10) (v:=?_) rfl (by kernel_rfl) (by kernel_rfl) (by kernel_rfl) (fun _ _ _ h=>h) (Or.inl ⟨by rfl,?_⟩) hS ?_
         rotate_left
         · (intro w hSw;(try dsimp only at hSw);go_simp;(try with_reducible rfl))
         rotate_left
         simp only [Act.put,zq0,zq1,zq2,zq3,zq4,zq5]
         refine wpAnyH_take (i:=11) (v:=?_) rfl (by kernel_rfl) (by kernel_rfl) (by kernel_rfl) (fun _ _ _ h=>h) (Or.inl ⟨by rfl,?_⟩) hS ?_
         rotate_left
         · (intro w hSw;(try dsimp only at hSw);go_simp;(try with_reducible rfl))
         rotate_left
         simp only [Act.put,zq0,zq1,zq2,zq3,zq4,zq5]
         refine wpAnyH_take (i:=12) (v:=?_) rfl (by kernel_rfl) (by kernel_rfl) (by kernel_rfl) (fun _ _ _ h=>h) (Or.inl ⟨by rfl,?_⟩) hS ?_
         rotate_left
         · (intro w hSw;(try dsimp only at hSw);go_simp;(try with_reducible rfl))
         rotate_left
         simp only [Act.put,zq0,zq1,zq2,zq3,zq4,zq5]
         refine wpAnyH_take (i:=13) (v:=?_) rfl (by kernel_rfl) (by kernel_rfl) (by kernel_rfl) (fun _ _ _ h=>h) (Or.inl ⟨by rfl,?_⟩) hS ?_
         rotate_left
         · (intro w hSw;(try dsimp only at hSw);go_simp;(try with_reducible rfl))
         rotate_left
         simp only [Act.put,zq0,zq1,zq2,zq3,zq4,zq5]
         refine wpAnyH_take (i:=14) (v:=?_) rfl (by kernel_rfl) (by kernel_rfl) (by kernel_rfl) (fun _ _ _ h=>h) (Or.inl ⟨by rfl,?_⟩) hS ?_
         rotate_left
         · (intro w hSw;(try dsimp only at hSw);go_simp;(try with_reducible rfl))
         rotate_left
         simp only [Act.put,zq0,zq1,zq2,zq3,zq4,zq5]
         refine wpAnyH_take (i:=15) (v:=?_) rfl (by kernel_rfl) (by kernel_rfl) (by kernel_rfl) (fun _ _ _ h=>h) (Or.inl ⟨by rfl,?_⟩) hS ?_
         rotate_left
         · (intro w hSw;(try dsimp only at hSw);go_simp;(try with_reducible rfl))
         rotate_left
         simp only [Act.put,zq0,zq1,zq2,zq3,zq4,zq5]
         refine wpAnyH_take (i:=16) (v:=?_) rfl (by kernel_rfl) (by kernel_rfl) (by kernel_rfl) (fun _ _ _ h=>h) (Or.inl ⟨by rfl,?_⟩) hS ?_
         rotate_left
         · (intro w hSw;(try dsimp only at hSw);go_simp;(try with_reducible rfl))
         rotate_left
         simp only [Act.put,zq0,zq1,zq2,zq3,zq4,zq5]
         refine wpAnyH_take (i:=17) (v:=?_) rfl (by kernel_rfl) (by kernel_rfl) (by kernel_rfl) (fun _ _ _ h=>h) (Or.inl ⟨by rfl,?_⟩) hS ?_
         rotate_left
         · (intro w hSw;(try dsimp only at hSw);go_simp;(try with_reducible rfl))
         rotate_left
         simp only [Act.put,zq0,zq1,zq2,zq3,zq4,zq5]
         refine wpAnyH_take (i:=18) (v:=?_) rfl (by kernel_rfl) (by kernel_rfl) (by kernel_rfl) (fun _ _ _ h=>h) (Or.inl ⟨by rfl,?_⟩) hS ?_
         rotate_left
         · (intro w hSw;(try dsimp only at hSw);go_simp;(try with_reducible rfl))
         rotate_left
         simp only [Act.put,zq0,zq1,zq2,zq3,zq4,zq5]
         refine wpAnyH_take (i:=19) (v:=?_) rfl (by kernel_rfl) (by kernel_rfl) (by kernel_rfl) (fun _ _ _ h=>h) (Or.inl ⟨by rfl,?_⟩) hS ?_
         rotate_left
         · (intro w hSw;(try dsimp only at hSw);go_simp;(try with_reducible rfl))
         rotate_left
         simp only [Act.put,zq0,zq1,zq2,zq3,zq4,zq5]
         refine wpAnyH_take (i:=20) (v:=?_) rfl (by kernel_rfl) (by kernel_rfl) (by kernel_rfl) (fun _ _ _ h=>h) (Or.inl ⟨by rfl,?_⟩) hS ?_
         rotate_left
         · (intro w hSw;(try dsimp only at hSw);go_simp;(try with_reducible rfl))
         rotate_left
         simp only [Act.put,zq0,zq1,zq2,zq3,zq4,zq5]
         refine wpAnyH_take (i:=21) (v:=?_) rfl (by kernel_rfl) (by kernel_rfl) (by kernel_rfl) (fun _ _ _ h=>h) (Or.inl ⟨by rfl,?_⟩) hS ?_
         rotate_left
         · (intro w hSw;(try dsimp only at hSw);go_simp;(try with_reducible rfl))
         rotate_left
         simp only [Act.put,zq0,zq1,zq2,zq3,zq4,zq5]
         refine wpAnyH_take (i:=22) (v:=?_) rfl (by kernel_rfl) (by kernel_rfl) (by kernel_rfl) (fun _ _ _ h=>h) (Or.inl ⟨by rfl,?_⟩) hS ?_
         rotate_left
         · (intro w hSw;(try dsimp only at hSw);go_simp;(try with_reducible rfl))
         rotate_left
         simp only [Act.put,zq0,zq1,zq2,zq3,zq4,zq5]
         refine wpAnyH_take (i:=23) (v:=?_) rfl (by kernel_rfl) (by kernel_rfl) (by kernel_rfl) (fun _ _ _ h=>h) (Or.inl ⟨by rfl,?_⟩) hS ?_
         rotate_left
         · (intro w hSw;(try dsimp only at hSw);go_simp;(try with_reducible rfl))
         rotate_left
         simp only [Act.put,zq0,zq1,zq2,zq3,zq4,zq5]
         refine wpAnyH_take (i:=24) (v:=?_) rfl (by kernel_rfl) (by kernel_rfl) (by kernel_rfl) (fun _ _ _ h=>h) (Or.inl ⟨by rfl,?_⟩) hS ?_
         rotate_left
         · (intro w hSw;(try dsimp only at hSw);go_simp;(try with_reducible rfl))
         rotate_left
         simp only [Act.put,zq0,zq1,zq2,zq3,zq4,zq5]
         refine wpAnyH_take (i:=25) (v:=?_) rfl (by kernel_rfl) (by kernel_rfl) (by kernel_rfl) (fun _ _ _ h=>h) (Or.inl ⟨by rfl,?_⟩) hS ?_
         rotate_left
         · (intro w hSw;(try dsimp only at hSw);go_simp;(try with_reducible rfl))
         rotate_left
         simp only [Act.put,zq0,zq1,zq2,zq3,zq4,zq5]
         refine wpAnyH_take (i:=26) (v:=?_) rfl (by kernel_rfl) (by kernel_rfl) (by kernel_rfl) (fun _ _ _ h=>h) (Or.inl ⟨by rfl,?_⟩) hS ?_
         rotate_left
         · (intro w hSw;(try dsimp only at hSw);go_simp;(try with_reducible rfl))
         rotate_left
         simp only [Act.put,zq0,zq1,zq2,zq3,zq4,zq5]
         refine wpAnyH_take (i:=27) (v:=?_) rfl (by kernel_rfl) (by kernel_rfl) (by kernel_rfl) (fun _ _ _ h=>h) (Or.inl ⟨by rfl,?_⟩) hS ?_
         rotate_left
         · (intro w hSw;(try dsimp only at hSw);go_simp;(try with_reducible rfl))
         rotate_left
         simp only [Act.put,zq0,zq1,zq2,zq3,zq4,zq5]
         refine wpAnyH_take (i:=28) (v:=?_) rfl (by kernel_rfl) (by kernel_rfl) (by kernel_rfl) (fun _ _ _ h=>h) (Or.inl ⟨by rfl,?_⟩) hS ?_
         rotate_left
         · (intro w hSw;(try dsimp only at hSw);go_simp;(try with_reducible rfl))
         rotate_left
         simp only [Act.put,zq0,zq1,zq2,zq3,zq4,zq5]
         refine wpAnyH_take (i:=29) (v:=?_) rfl (by kernel_rfl) (by kernel_rfl) (by kernel_rfl) (fun _ _ _ h=>h) (Or.inl ⟨by rfl,?_⟩) hS ?_
         rotate_left
         · (intro w hSw;(try dsimp only at hSw);go_simp;(try with_reducible rfl))
         rotate_left
         simp only [Act.put,zq0,zq1,zq2,zq3,zq4,zq5]
         refine wpAnyH_done (by kernel_rfl) ?_ _
         clear hS HSX
         have bd:=Ext.drew (Below.refl wr.heap.size wr)
         have HTD:=Lib.hid (HT.out.next bd)
         have t7:=Ext.trans b6 bd
         have BD:=HKF.out.next bd
         have kw : wr.drew.cell? ⟨gw,i,none⟩ = some (.int .i64 wk[i]):=by rw [BD.cell,HWV.out i (by omega),List.getElem?_map,List.getElem?_eq_getElem HI.out.1];rfl
         have kf:=BD.free
         generalize wr.drew = wd at *
         have HTM : Hid (Tell (⟨id,m,c,r,l,h⟩ : Cfg) w0.heap.size (j + 1) os av2 wh2 yes (k + 1) (wk.set i (j : Int)) k1 k2 (.slice A1 os.length c1) (.slice (some ⟨g3,0,none⟩) M c3) (.slice (some ⟨ba,oa,none⟩) av2.length ck) (.slice (some ⟨gw,0,none⟩) wh2.length cw) (wd.setCell ⟨gw,i,none⟩ (.int .i64 (j : Int)))):=Tell.mark HTD.out hky hi HE.out (by omega)
         have t8:=Below.setCell (p:=⟨gw,i,none⟩) t7 (show w0.heap.size ≤ gw from HI.out.2.2.2.2.1) (.int .i64 (j : Int))
         clear b6 bd HTD t7 BD HKF HWV HT
         generalize wk[i] = zw at *
         go_upto_region 32 with fail
         generalize wd.setCell ⟨gw,i,none⟩ (.int .i64 (j : Int)) = ws at *
         clear kw kf
         have HT8:=Lib.hid t8
         have bs0 : Below ws.heap.size ws ws:=Below.refl _ _
         have HRS : Hid (Rd ws (some ⟨ba,oa,none⟩) (av2.map cellsA).flatten):=by
          obtain ⟨A',c',eA,_,RA⟩:=own_rd HTM.out.ask
          injection eA with eA _ _
          rw [eA]
          exact RA
         have HWS : Hid (Rd ws (some ⟨gw,0,none⟩) ((wk.set i (j : Int)).map intV)):=by
          obtain ⟨A',c',eA,_,RA⟩:=own_rd HTM.out.whn
          injection eA with eA _ _
          rw [eA]
          exact RA
         clear t8 HRA f1 f2 f3 hlk
         go_wp2
         go_loopw [16] (fun u wr=>∃ q : Nat,q ≤ i ∧ u = .int .i64 (q : Int) ∧ Below ws.heap.size ws wr) (fun u _=>i - (intOf u).toNat)
         case atStart=>exact ⟨0,Nat.zero_le _,rfl,bs0⟩
         case round=>
          as_aux_lemma=>
          obtain ⟨q,hq,rfl,b9⟩:=hrel
          clear bs0
          by_cases hlq : q < i
          · as_aux_lemma=>
            have hqa : q < av2.length:=by omega
            have hqw : q < (wk.set i (j : Int)).length:=by rw [List.length_set];omega
            have ka:=rd_asks2 (HRS.out.below b9) ha
            have kb:=rd_asks2 (HRS.out.below b9) hqa
            obtain ⟨bw,ow,ewq,kz⟩:=rd_ints (HWS.out.below b9) hqw
            injection ewq with ewq
            injection ewq with e1 e2 _
            subst e1 e2
            rw [Nat.zero_add] at kz
            have HFR : Hid (touchV av2[q] av2[i] = true → ¬ (wk.set i (j : Int))[q] < 0):=HTM.out.who.free HTM.out.step hky ha HE.out hlq hqw
            have HOA : Hid (okV (⟨id,m,c,r,l,h⟩ : Cfg) av2[i]):=HTM.out.step.ok _ (List.getElem_mem ha)
            have HOB : Hid (okV (⟨id,m,c,r,l,h⟩ : Cfg) av2[q]):=HTM.out.step.ok _ (List.getElem_mem hqa)
            generalize (wk.set i (j : Int))[q] = zq at *
            generalize av2[i] = vi at *
            generalize av2[q] = vq at *
            obtain ⟨ki,ai,yi,Ai,ni,qi⟩:=vi
            obtain ⟨kq,aq,yq,Aq,nq,qq⟩:=vq
            have CB:=HC0.out.next (Ext.trans HT8.out b9)
            have HCB:=Lib.hid CB
            have a0 : wr.cell? ⟨ba,oa + i * 4,none⟩ = some (.int .u8 ((ki.toNat : Nat) : Int)):=ka 0 (by decide)
            have a1 : wr.cell? ⟨ba,oa + i * 4 + 1,none⟩ = some (.int .i64 ai):=ka 1 (by decide)
            have a2 : wr.cell? ⟨ba,oa + i * 4 + 2,none⟩ = some (.int .i64 yi):=ka 2 (by decide)
            have a3 : wr.cell? ⟨ba,oa + i * 4 + 3,none⟩ = some (.slice Ai ni qi):=ka 3 (by decide)
            have e0 : wr.cell? ⟨ba,oa + q * 4,none⟩ = some (.int .u8 ((kq.toNat : Nat) : Int)):=kb 0 (by decide)
            have e1 : wr.cell? ⟨ba,oa + q * 4 + 1,none⟩ = some (.int .i64 aq):=kb 1 (by decide)
            have e2 : wr.cell? ⟨ba,oa + q * 4 + 2,none⟩ = some (.int .i64 yq):=kb 2 (by decide)
            have e3 : wr.cell? ⟨ba,oa + q * 4 + 3,none⟩ = some (.slice Aq nq qq):=kb 3 (by decide)
            have HTO:=Lib.hid (fun (w : World)=>touch_all (⟨id,m,c,r,l,h⟩ : Cfg) ((kq.toNat : Nat) : Int) aq yq ((ki.toNat : Nat) : Int) ai yi Aq Ai nq qq ni qi HOB.out HOA.out w)
            obtain ⟨tb,htb⟩ : ∃ z : Bool,z = touchB ((kq.toNat : Nat) : Int) aq yq ((ki.toNat : Nat) : Int) ai yi:=⟨_,rfl⟩
            rw [← htb] at HTO
            have HTB : Hid (tb = true → ¬ zq < 0):=fun h=>HFR.out (by show touchB _ _ _ _ _ _ = true;rw [← htb];exact h)
            have HLQ:=Lib.hid hlq
            have HWQ:=next_wrap (show i ≤ maxLen by have h1:=HNM.out;have h2 : av2.length < N + 1:=HI.out.2.2.2.2.2;omega) hlq
            have hiq : q < wh2.length:=by omega
            have HKZ:=Lib.hid kz
            have b9':=Lib.hid b9
            clear ka kb HFR HOA HOB htb kz b9 CB
            go_upto_region 35 with fail
            have HSX : Hid (∀ w',Below wr.heap.size wr w' → (Below wr.heap.size wr w' ∧ (∀ p,w'.cell? ⟨w.heap.size,p,none⟩ = (#[.int .u32 (id : Int),.int .i64 m,.int .i64 c,.int .i64 r,.int .i64 l,.int .i64 h] : Array Value).toList[p]?) ∧ w'.cell? ⟨ba,oa + i * 4,none⟩ = some (.int .u8 ((ki.toNat : Nat) : Int)) ∧ w'.cell? ⟨ba,oa + i * 4 + 1,none⟩ = some (.int .i64 ai) ∧ w'.cell? ⟨ba,oa + i * 4 + 2,none⟩ = some (.int .i64 yi) ∧ w'.cell? ⟨ba,oa + i * 4 + 3,none⟩ = some (.slice Ai ni qi) ∧ w'.cell? ⟨ba,oa + q * 4,none⟩ = some (.int .u8 ((kq.toNat : Nat) : Int)) ∧ w'.cell? ⟨ba,oa + q * 4 + 1,none⟩ = some (.int .i64 aq) ∧ w'.cell? ⟨ba,oa + q * 4 + 2,none⟩ = some (.int .i64 yq) ∧ w'.cell? ⟨ba,oa + q * 4 + 3,none⟩ = some (.slice Aq nq qq))):=fun w' bb=>⟨bb,(HCB.out.next bb).cell,by rw [bb.cell (p:=⟨ba,oa + i * 4,none⟩) (cell_lt a0)];exact a0,by rw [bb.cell (p:=⟨ba,oa + i * 4 + 1,none⟩) (cell_lt a1)];exact a1,by rw [bb.cell (p:=⟨ba,oa + i * 4 + 2,none⟩) (cell_lt a2)];exact a2,by rw [bb.cell (p:=⟨ba,oa + i * 4 + 3,none⟩) (cell_lt a3)];exact a3,by rw [bb.cell (p:=⟨ba,oa + q * 4,none⟩) (cell_lt e0)];exact e0,by rw [bb.cell (p:=⟨ba,oa + q * 4 + 1,none⟩) (cell_lt e1)];exact e1,by rw [bb.cell (p:=⟨ba,oa + q * 4 + 2,none⟩) (cell_lt e2)];exact e2,by rw [bb.cell (p:=⟨ba,oa + q * 4 + 3,none⟩) (cell_lt e3)];exact e3⟩
            have HSD:=HSX.out _ (Ext.drew (Below.refl wr.heap.size wr))
            clear a0 a1 a2 a3 e0 e1 e2 e3
            refine wp_region_held_drew (S:=fun w'=>Below wr.heap.size wr w' ∧ (∀ p,w'.cell? ⟨w.heap.size,p,none⟩ = (#[.int .u32 (id : Int),.int .i64 m,.int .i64 c,.int .i64 r,.int .i64 l,.int .i64 h] : Array Value).toList[p]?) ∧ w'.cell? ⟨ba,oa + i * 4,none⟩ = some (.int .u8 ((ki.toNat : Nat) : Int)) ∧ w'.cell? ⟨ba,oa + i * 4 + 1,none⟩ = some (.int .i64 ai) ∧ w'.cell? ⟨ba,oa + i * 4 + 2,none⟩ = some (.int .i64 yi) ∧ w'.cell? ⟨ba,oa + i * 4 + 3,none⟩ = some (.slice Ai ni qi) ∧ w'.cell? ⟨ba,oa + q * 4,none⟩ = some (.int .u8 ((kq.toNat : Nat) : Int)) ∧ w'.cell? ⟨ba,oa + q * 4 + 1,none⟩ = some (.int .i64 aq) ∧ w'.cell? ⟨ba,oa + q * 4 + 2,none⟩ = some (.int .i64 yq) ∧ w'.cell? ⟨ba,oa + q * 4 + 3,none⟩ = some (.slice Aq nq qq)) (by kernel_rfl) HSD (fun hS=>?_)
            clear HSD
            refine wpAnyH_take (i:=0) (v:=?_) rfl (by kernel_rfl) (by kernel_rfl) (by kernel_rfl) (fun _ _ _ h=>h) (Or.inl ⟨by rfl,?_⟩) hS ?_
            rotate_left
            · (intro w hSw;(try dsimp only at hSw);go_simp;(try with_reducible rfl))
            rotate_left
            simp only [Act.put,zq0,zq1,zq2,zq3,zq4,zq5]
            refine wpAnyH_take (i:=1) (v:=?_) rfl (by kernel_rfl) (by kernel_rfl) (by kernel_rfl) (fun _ _ _ h=>h) (Or.inl ⟨by rfl,?_⟩) hS ?_
            rotate_left
            · (intro w hSw;(try dsimp only at hSw);go_simp;(try with_reducible rfl))
            rotate_left
            simp only [Act.put,zq0,zq1,zq2,zq3,zq4,zq5]
            refine wpAnyH_take (i:=2) (v:=?_) rfl (by kernel_rfl) (by kernel_rfl) (by kernel_rfl) (fun _ _ _ h=>h) (Or.inl ⟨by rfl,?_⟩) hS ?_
            rotate_left
            · (intro w hSw;(try dsimp only at hSw);go_simp;(try with_reducible rfl))
            rotate_left
            simp only [Act.put,zq0,zq1,zq2,zq3,zq4,zq5]
            refine wpAnyH_take (i:=3) (v:=?_) rfl (by kernel_rfl) (by kernel_rfl) (by kernel_rfl) (fun _ _ _ h=>h) (Or.inl ⟨by rfl,?_⟩) hS ?_
            rotate_left
            · (intro w hSw;(try dsimp only at hSw);go_simp;(try with_reducible rfl))
            rotate_left
            simp only [Act.put,zq0,zq1,zq2,zq3,zq4,zq5]
            refine wpAnyH_take (i:=4) (v:=?_) rfl (by kernel_rfl) (by kernel_rfl) (by kernel_rfl) (fun _ _ _ h=>h) (Or.inl ⟨by rfl,?_⟩) hS ?_
            rotate_left
            · (intro w hSw;(try dsimp only at hSw);go_simp;(try with_reducible rfl))
            rotate_left
            simp only [Act.put,zq0,zq1,zq2,zq3,zq4,zq5]
            refine wpAnyH_take (i:=5) (v:=?_) rfl (by kernel_rfl) (by kernel_rfl) (by kernel_rfl) (fun _ _ _ h=>h) (Or.inl ⟨by rfl,?_⟩) hS ?_
            rotate_left
            · (intro w hSw;(try dsimp only at hSw);go_simp;(try with_reducible rfl))
            rotate_left
            simp only [Act.put,zq0,zq1,zq2,zq3,zq4,zq5]
            refine wpAnyH_take (i:=6) (v:=?_) rfl (by kernel_rfl) (by kernel_rfl) (by kernel_rfl) (fun _ _ _ h=>h) (Or.inl ⟨by rfl,?_⟩) hS ?_
            rotate_left
            · (intro w hSw;(try dsimp only at hSw);go_simp;(try with_reducible rfl))
            rotate_left
            simp only [Act.put,zq0,zq1,zq2,zq3,zq4,zq5]
            refine wpAnyH_take (i:=7) (v:=?_) rfl (by kernel_rfl) (by kernel_rfl) (by kernel_rfl) (fun _ _ _ h=>h) (Or.inl ⟨by rfl,?_⟩) hS ?_
            rotate_left
            · (intro w hSw;(try dsimp only at hSw);go_simp;(try with_reducible rfl))
            rotate_left
            simp only [Act.put,zq0,zq1,zq2,zq3,zq4,zq5]
            refine wpAnyH_take (i:=8) (v:=?_) rfl (by kernel_rfl) (by kernel_rfl) (by kernel_rfl) (fun _ _ _ h=>h) (Or.inl ⟨by rfl,?_⟩) hS ?_
            rotate_left
            · (intro w hSw;(try dsimp only at hSw);go_simp;(try with_reducible rfl))
            rotate_left
            simp only [Act.put,zq0,zq1,zq2,zq3,zq4,zq5]
            refine wpAnyH_take (i:=9) (v:=?_) rfl (by kernel_rfl) (by kernel_rfl) (by kernel_rfl) (fun _ _ _ h=>h) (Or.inl ⟨by rfl,?_⟩) hS ?_
            rotate_left
            · (intro w hSw;(try dsimp only at hSw);go_simp;(try with_reducible rfl))
            rotate_left
            simp only [Act.put,zq0,zq1,zq2,zq3,zq4,zq5]
            refine wpAnyH_ready (rs:=[10]) (by kernel_rfl) (by simp) ?_
            refine AllReadyH.cons rfl (fun K hK=>?_) AllReadyH.nil
            rw [if_pos (by rfl)]
            go_simp
            refine (HTO.out _).mono ?_
            rintro e v3 ⟨rfl,k3⟩
            refine hK.out _ _ (HSX.out _ (Ext.trans hS.1 k3)) (fun hS'=>?_)
            clear hK K hS k3
            have hS:=hS'
            clear hS'
            try simp only [Act.put,zq0,zq1,zq2,zq3,zq4,zq5]
            refine wpAnyH_take (i:=11) (v:=?_) rfl (by kernel_rfl) (by kernel_rfl) (by kernel_rfl) (fun _ _ _ h=>h) (Or.inl ⟨by rfl,?_⟩) hS ?_
            rotate_left
            · (intro w hSw;(try dsimp only at hSw);go_simp;(try with_reducible rfl))
            rotate_left
            simp only [Act.put,zq0,zq1,zq2,zq3,zq4,zq5]
            refine wpAnyH_take (i:=12) (v:=?_) rfl (by kernel_rfl) (by kernel_rfl) (by kernel_rfl) (fun _ _ _ h=>h) (Or.inl ⟨by rfl,?_⟩) hS ?_
            rotate_left
            · (intro w hSw;(try dsimp only at hSw);go_simp;(try with_reducible rfl))
            rotate_left
            simp only [Act.put,zq0,zq1,zq2,zq3,zq4,zq5]
            refine wpAnyH_take (i:=13) (v:=?_) rfl (by kernel_rfl) (by kernel_rfl) (by kernel_rfl) (fun _ _ _ h=>h) (Or.inl ⟨by rfl,?_⟩) hS ?_
            rotate_left
            · (intro w hSw;(try dsimp only at hSw);go_simp;(try with_reducible rfl))
            rotate_left
            simp only [Act.put,zq0,zq1,zq2,zq3,zq4,zq5]
            refine wpAnyH_take (i:=14) (v:=?_) rfl (by kernel_rfl) (by kernel_rfl) (by kernel_rfl) (fun _ _ _ h=>h) (Or.inl ⟨by rfl,?_⟩) hS ?_
            rotate_left
            · (intro w hSw;(try dsimp only at hSw);go_simp;(try with_reducible rfl))
            rotate_left
            simp only [Act.put,zq0,zq1,zq2,zq3,zq4,zq5]
            refine wpAnyH_take (i:=15) (v:=?_) rfl (by kernel_rfl) (by kernel_rfl) (by kernel_rfl) (fun _ _ _ h=>h) (Or.inl ⟨by rfl,?_⟩) hS ?_
            rotate_left
            · (intro w hSw;(try dsimp only at hSw);go_simp;(try with_reducible rfl))
            rotate_left
            simp only [Act.put,zq0,zq1,zq2,zq3,zq4,zq5]
            refine wpAnyH_done (by kernel_rfl) ?_ _
            have b10:=hS.1
            clear hS HSX
            have kz : v3.cell? ⟨gw,q,none⟩ = some (.int .i64 zq):=by rw [b10.cell (p:=⟨gw,q,none⟩) (cell_lt HKZ.out)];exact HKZ.out
            have b11:=Ext.trans b9'.out b10
            cases tb with
            | false=>
              go_wp2
              go_roundw
              case rel=>exact ⟨q + 1,HLQ.out,by first | rfl | exact round_same HWQ | go_num,b11⟩
              case measure=>first | exact round_less HWQ HLQ.out | (have h:=HLQ.out;simp [intOf];omega)
            | true=>
              have hz:=HTB.out rfl
              go_wp2
              go_roundw
              case rel=>exact ⟨q + 1,HLQ.out,by first | rfl | exact round_same HWQ | go_num,b11⟩
              case measure=>first | exact round_less HWQ HLQ.out | (have h:=HLQ.out;simp [intOf];omega)
          · as_aux_lemma=>
            have hqi : q = i:=by omega
            subst hqi
            have HT9:=Lib.hid (HTM.out.next b9)
            have t9:=Ext.trans HT8.out b9
            have HWK:=next_wrap HMM.out (show k < M by have:=HM.out;have:=HI.out.2.2.1;omega)
            have HLK : Hid (k < M):=by have:=HM.out;have:=HI.out.2.2.1;show k < M;omega
            clear HTM
            go_wp2
            go_roundw
            case rel=>exact ⟨k + 1,wk.set q (j : Int),HLK.out,by first | rfl | exact round_same HWK | go_num,t9,HT9.out⟩
            case measure=>first | exact round_less HWK HLK.out | (have h:=HLK.out;simp [intOf];omega)
       · as_aux_lemma=>
         have hke : k = yes.length:=by have:=HM.out;omega
         have HSN : Hid (StIs (⟨id,m,c,r,l,h⟩ : Cfg) w0.heap.size (j + 1) os av2 wk k1 k2 (.slice A1 os.length c1) (.slice Aa av2.length ck) (.slice Aw wh2.length cw) wr):=by
          have h9:=HT.out
          rw [hke] at h9
          exact h9.done
         have HWL : Hid (wk.length = wh2.length):=HT.out.who.1
         have HCB:=HC0.out.next b6
         have x9:=HCB.cell
         have HRF : Hid (RdIn wr (fun _=>True) (.sl FlTy) os [.slice A1 os.length c1]):=HSN.out.fls.mono fun _ _=>trivial
         have HWW : Hid (Rd wr Aw (wk.map intV)):=by
          obtain ⟨A',c',eA,_,RA⟩:=own_rd HSN.out.whn
          injection eA with eA _ _
          rw [eA]
          exact RA
         have HHM : Hid (os.length ≤ maxLen ∧ wh2.length ≤ maxLen):=by
          have h1:=(flB_pw.1 HSN.out.ord.fl).2.1
          have h2:=HSN.out.cnt
          have h3:=HSN.out.ord.len
          have h4:=HWL.out
          have h5:=HNM.out
          have h6:=HLJ.out
          show _ ∧ _
          unfold maxLen at *
          omega
         have HT6:=Lib.hid b6
         clear HT hke b6 HCB
         go_wp2_with fail
         refine (HCK.out os os.length c1 A1 rfl wr HRF.out).mono ?_
         rintro e w9 ⟨he,b9⟩
         have he2 : e = .returned (.int .i64 0):=by
          rcases okbad_cases he with ⟨_,h⟩ | ⟨hb,_⟩
          · exact h
          · exact absurd HSN.out.ord.fl hb
         subst he2
         have HB9:=Lib.hid b9
         clear he b9 x9
         go_wp2_with fail
         refine (gone_any (fun _=>True) os os.length c1 A1 rfl HHM.out.1 wk wh2.length cw Aw HWL.out HHM.out.2 HSN.out.ord.nums w9 (HRF.out.below HB9.out) (HWW.out.below HB9.out)).mono ?_
         rintro e w10 ⟨rfl,b10⟩
         have HB10:=Lib.hid (Ext.trans HB9.out b10)
         have t10:=Ext.trans HT6.out HB10.out
         have HSF:=Lib.hid (HSN.out.next HB10.out)
         clear b10 HSN
         go_wp2
         go_roundw
         case rel=>exact ⟨j + 1,os,av2,wk,k1,k2,HLJ.out,by first | rfl | exact round_same HWJ | go_num,t10,HSF.out⟩
         case measure=>first | exact round_less HWJ HLJ.out | (have h:=HLJ.out;simp [intOf];omega)
  · have hj' : j = N:=by omega
    subst hj'
    have t9:=Ext.trans HT0.out b4
    go_wp2
    go_ret
    exact ⟨rfl,t9⟩
end Go.Proofs.Ythapabjlhooglaa
namespace Go.Proofs.Ythapabjlhooglaa
open Go Go.RowKit
set_option linter.unusedSimpArgs false
set_option linter.unusedVariables false
theorem flightorder_walk (w : World) (c0 : List Value) (x0 : (Ty.st (.prod .u32 (.prod .int (.prod .int (.prod .int (.prod .int (.prod .int .unit))))))).T) (h0 : RdIn w (fun b=>b < w.heap.size) (Ty.st (.prod .u32 (.prod .int (.prod .int (.prod .int (.prod .int (.prod .int .unit))))))) x0 c0) (v1 : Value) (x1 : (Ty.sl ThTy).T) (h1 : RdIn w (fun b=>b < w.heap.size) (.sl ThTy) x1 [v1]) :
 Calls Try.prog 7 #[.agg c0.toArray,v1] w fun e w'=>e = .returned (.bool true) ∧ Below w.heap.size w w':=by
 obtain ⟨x,hx⟩:=cfg_deep h0
 rw [hx]
 obtain ⟨A,ca,rfl⟩:=sl_deep h1
 exact orderlaw_core _ x x1 _ ca A rfl w h1
end Go.Proofs.Ythapabjlhooglaa
