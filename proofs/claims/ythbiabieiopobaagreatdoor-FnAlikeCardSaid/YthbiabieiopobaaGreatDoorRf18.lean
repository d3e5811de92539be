/- The evaluator is right. -/
import Derived.Test.YthbiabieiopobaaGreatDoorRf17
set_option linter.unusedVariables false
set_option linter.unusedSimpArgs false
namespace Go.Rf
open Go
variable {g0:Nat} {X:Nat→Prop} {m:Bd} {A:Nat→Prop} {S:St} {w:World} {P:Program}
def HI (tmps:Array Value):ResultVar→Sem Value
 | .tmp t=>pure (tmps.getD t undef)
 | .cell a t=>do loadVar t (← asAddr (tmps.getD a undef))
theorem P9 (fn:Func) (tmps:Array Value):results fn tmps = (do
  let vs ← fn.results.mapM (HI tmps)
  pure (if h:vs.size = 1 then vs[0] else .tuple vs)):=by
 unfold results HI
 rfl
theorem W1 (hr:Rel g0 X m A S w) {p v:AV} {cv:Value} (hp:VR X m A S w p cv) {t:TypeId} {d:TypeDesc} (hu:P.underlying t = some d)
  (h:(if EZ d then ldA S p (P.cellsOf t) else ld1 S p) = some v):∃ cr,(do loadVar t (← asAddr cv)).run P w = .ok cr w∧VR X m A S w v cr:=by
 by_cases hd:EZ d = true
 ·simp only [hd,if_true,ldA] at h
  split at h <;> try (cases h; done)
  rename_i cs hcs
  split at h <;> try (cases h; done)
  rename_i hl
  injection h with h; subst h
  obtain ⟨blk,off,val,rfl,h1,h2,h3⟩:=FI hr hp hcs
  refine ⟨.agg ((List.range cs.length).map val).toArray,?_,(.agg _ _ (by simp) h3 (fun i a v hi hv=>?_))⟩
  ·simp [asAddr,loadVar,Ef hu,hd,Fg hu,← hl,GH w blk off val _ h1]
  ·have hi':=(List.getElem?_eq_some_iff.1 hi).1
   simp [hi'] at hv
   subst hv
   exact h2 i a hi
 ·simp only [hd,if_false,Bool.false_eq_true,ld1] at h
  split at h <;> try (cases h; done)
  rename_i c hcs
  injection h with h; subst h
  obtain ⟨blk,off,val,rfl,h1,h2,h3⟩:=FI hr hp hcs
  have h1':=h1 0 (by simp)
  simp only [Nat.add_zero] at h1'
  refine ⟨val 0,?_,h2 0 _ rfl⟩
  simp [asAddr,loadVar,Ef hu,hd,h1']
theorem BH {C:Cfg} (hr:Rel g0 X m A S w) {fr:List AV} {a:Act} (hf:FR X m A S w fr a) {rv:ResultVar} {v:AV} (h:CB C fr S rv = some v) :
  ∃ cv,(HI a.tmps rv).run C.P w = .ok cv w∧VR X m A S w v cv:=by
 cases rv with
 | tmp t=>
  simp only [CB,Option.some.injEq] at h
  subst h
  exact ⟨a.tmps.getD t undef,by simp [HI],hf.eval (.tmp t)⟩
 | cell b t=>
  simp only [CB] at h
  split at h <;> try (cases h; done)
  rename_i d hu
  exact W1 hr (hf.eval (.tmp b)) hu h
theorem Jl {C:Cfg} (hr:Rel g0 X m A S w) {fr:List AV} {a:Act} (hf:FR X m A S w fr a) {fn:Func} {v:AV} (h:Dm C fr S fn.results.toList = some v) :
  ∃ cv,(results fn a.tmps).run C.P w = .ok cv w∧VR X m A S w v cv:=by
 rw [P9]
 obtain ⟨l,hl⟩:∃ l,fn.results.toList = l:=⟨_,rfl⟩
 have hl':fn.results = l.toArray:=by rw [← hl]
 rw [hl'] at h ⊢
 simp only [] at h
 match l,h with
 | [],h=>
  simp only [Dm,Option.some.injEq] at h
  subst h
  exact ⟨undef,by simp [undef],VR.und⟩
 | [x],h=>
  simp only [Dm] at h
  obtain ⟨cv,h1,h2⟩:=BH hr hf h
  exact ⟨cv,by simp [h1],h2⟩
 | [x,y],h=>
  simp only [Dm] at h
  split at h <;> try (cases h; done)
  rename_i vx vy hx hy
  injection h with h; subst h
  obtain ⟨cx,h1,h2⟩:=BH hr hf hx
  obtain ⟨cy,h3,h4⟩:=BH hr hf hy
  refine ⟨.tuple #[cx,cy],by simp [h1,h3],.tup _ _ rfl (fun i a v hi hv=>?_)⟩
  match i with
  | 0=>simp at hi hv; subst hi; subst hv; exact h2
  | 1=>simp at hi hv; subst hi; subst hv; exact h4
  | i + 2=>simp at hi
 | [x,y,z],h=>
  simp only [Dm] at h
  split at h <;> try (cases h; done)
  rename_i vx vy vz hx hy hz
  injection h with h; subst h
  obtain ⟨cx,h1,h2⟩:=BH hr hf hx
  obtain ⟨cy,h3,h4⟩:=BH hr hf hy
  obtain ⟨cz,h5,h6⟩:=BH hr hf hz
  refine ⟨.tuple #[cx,cy,cz],by simp [h1,h3,h5],.tup _ _ rfl (fun i a v hi hv=>?_)⟩
  match i with
  | 0=>simp at hi hv; subst hi; subst hv; exact h2
  | 1=>simp at hi hv; subst hi; subst hv; exact h4
  | 2=>simp at hi hv; subst hi; subst hv; exact h6
  | i + 3=>simp at hi
 | [x0,x1,x2,x3],h=>
  simp only [Dm] at h
  split at h <;> try (cases h; done)
  rename_i v0 v1 v2 v3 q0 q1 q2 q3
  injection h with h; subst h
  obtain ⟨c0,f0,g0⟩:=BH hr hf q0
  obtain ⟨c1,f1,g1⟩:=BH hr hf q1
  obtain ⟨c2,f2,g2⟩:=BH hr hf q2
  obtain ⟨c3,f3,g3⟩:=BH hr hf q3
  refine ⟨.tuple #[c0,c1,c2,c3],by simp [f0,f1,f2,f3],.tup _ _ rfl (fun i a v hi hv=>?_)⟩
  match i with
  | 0=>simp at hi hv; subst hi; subst hv; exact g0
  | 1=>simp at hi hv; subst hi; subst hv; exact g1
  | 2=>simp at hi hv; subst hi; subst hv; exact g2
  | 3=>simp at hi hv; subst hi; subst hv; exact g3
  | i + 4=>simp at hi
 | [x0,x1,x2,x3,x4],h=>
  simp only [Dm] at h
  split at h <;> try (cases h; done)
  rename_i v0 v1 v2 v3 v4 q0 q1 q2 q3 q4
  injection h with h; subst h
  obtain ⟨c0,f0,g0⟩:=BH hr hf q0
  obtain ⟨c1,f1,g1⟩:=BH hr hf q1
  obtain ⟨c2,f2,g2⟩:=BH hr hf q2
  obtain ⟨c3,f3,g3⟩:=BH hr hf q3
  obtain ⟨c4,f4,g4⟩:=BH hr hf q4
  refine ⟨.tuple #[c0,c1,c2,c3,c4],by simp [f0,f1,f2,f3,f4],.tup _ _ rfl (fun i a v hi hv=>?_)⟩
  match i with
  | 0=>simp at hi hv; subst hi; subst hv; exact g0
  | 1=>simp at hi hv; subst hi; subst hv; exact g1
  | 2=>simp at hi hv; subst hi; subst hv; exact g2
  | 3=>simp at hi hv; subst hi; subst hv; exact g3
  | 4=>simp at hi hv; subst hi; subst hv; exact g4
  | i + 5=>simp at hi
 | _::_::_::_::_::_::_,h=>simp [Dm] at h
def Sv (C:Cfg) (g0:Nat) (G:World→Prop):Prop:=
 ∀ (f:FuncId) (e:List AV→St→Option (AV×St)),C.ext f = some e→∀ (args:List AV) (S:St) (v:AV) (S1:St),e args S = some (v,S1) →
  ∀ (X:Nat→Prop) (m:Bd) (A:Nat→Prop) (w:World) (cargs:Array Value),Rel g0 X m A S w→CR X m A S w args cargs→G w→Calls C.P f cargs w (ED g0 X m A S w v S1)
theorem RZ {C:Cfg} {G:World→Prop} (hL:Pg g0 G) (hm:C.P.follows .mixedOrders = true) (hN:Di C.P) (hE:Sv C g0 G):∀ d,Gt C.P g0 G (Ug C d)
 | 0=>fun g args S v S1 h=>by cases h
 | d + 1=>fun g args S v S1 h X m A w cargs hr ha hG=>by
  have ih:=RZ hL hm hN hE d
  simp only [Ug] at h
  split at h
  ·rename_i e he
   exact hE g e he args S v S1 h X m A w cargs hr ha hG
  ·split at h <;> try (cases h; done)
   rename_i fn hfn
   split at h <;> try (cases h; done)
   rename_i c hc
   have hGx:∀ m' A' S' w',Ext m A S w m' A' S' w'→G w':=fun m' A' S' w' he=>hL.ext hr he hG
   refine calls_of_wp hfn hc ?_
   have hf:FR X m A S w (args++List.replicate (fn.ntmps - args.length) und) { tmps:=cargs++Array.replicate (fn.ntmps - cargs.size) undef,defers:=[] }:=by
    refine ⟨by simp [ha.1],fun t v cv h1 h2=>?_⟩
    dsimp only at h2
    by_cases ht:t < args.length
    ·rw [List.getElem?_append_left ht] at h1
     rw [Array.getElem?_append_left (by rw [← ha.1]; exact ht)] at h2
     exact ha.2 t v cv h1 h2
    ·rw [List.getElem?_append_right (by omega)] at h1
     rw [Array.getElem?_append_right (by rw [← ha.1]; omega)] at h2
     have e1:v = und:=by
      rw [List.getElem?_replicate] at h1; split at h1 <;> simp at h1; exact h1.symm
     have e2:cv = undef:=by
      rw [Array.getElem?_replicate] at h2; split at h2 <;> simp at h2; exact h2.symm
     subst e1; subst e2; exact VR.und
   have hat:At g0 X m A S w (wr c) { tmps:=cargs++Array.replicate (fn.ntmps - cargs.size) undef,defers:=[] } (args++List.replicate (fn.ntmps - args.length) und) S m A { tmps:=cargs++Array.replicate (fn.ntmps - cargs.size) undef,defers:=[] } w:=
    ⟨hr,Ext.refl _ _ _ _,hf,rfl,DT.refl _ _⟩
   have hfin:∀ fr S' m' A' a w',(Dm C fr S' fn.results.toList).map (·,S') = some (v,S1)→At g0 X m A S w (wr c) { tmps:=cargs++Array.replicate (fn.ntmps - cargs.size) undef,defers:=[] } fr S' m' A' a w' →
     a.defers = []∧∃ u,(results fn a.tmps).run C.P w' = .ok u w'∧ED g0 X m A S w v S1 (.returned u) w':=by
    intro fr S' m' A' a w' hk hat'
    rw [Option.map_eq_some_iff] at hk
    obtain ⟨v',hv',e⟩:=hk
    injection e with e1 e2
    subst e1; subst e2
    obtain ⟨u,h1,h2⟩:=Jl hat'.rel hat'.fr hv'
    exact ⟨hat'.defers,u,h1,u,m',A',rfl,hat'.rel,hat'.ext,h2⟩
   refine wp_mono (X3 hL hN ih (YN hm hN ih) c _ _ _ (v,S1) X m A S w (wr c) _ _ S m A _ w (fun _ h=>h) h hat hGx) (fun e a w' hq=>?_)
   cases e with
   | normal=>
    obtain ⟨fr,S',m',A',hk,hat'⟩:=hq
    exact hfin fr S' m' A' a w' hk hat'
   | ret=>
    obtain ⟨fr,S',m',A',hk,hat'⟩:=hq
    exact hfin fr S' m' A' a w' hk hat'
   | exit id=>obtain ⟨fr,S',m',A',hk,hat'⟩:=hq; cases hk
   | goto l=>exact hq.elim
   | panic ch=>exact hq.elim
   | outgrown=>exact hq.elim
end Go.Rf
