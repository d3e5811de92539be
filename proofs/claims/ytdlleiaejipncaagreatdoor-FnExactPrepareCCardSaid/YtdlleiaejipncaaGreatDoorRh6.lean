/- Printed loops of one shape each: looking for something, likeness, copies, sizes. -/
import Derived.Test.YtdlleiaejipncaaGreatDoorRh5
set_option linter.unusedVariables false
set_option linter.unusedSimpArgs false
namespace Go.Rf
open Go
def ixI:Option Nat→Int
 | some i=>(i:Int)
 | none=>-1
theorem Iz (x:Option Nat):decide (ixI x ≥ 0) = x.isSome:=by
 cases x <;> simp [ixI]
abbrev big:Nat:=1099511627776
section
variable {α:Type} {N:Nat}
noncomputable def Ws (a0:List α) (a1:α→Option Bool) (s1:Int×Int):Option (LO (Int×Int)):=
 bif decide (s1.2 < (a0.length:Int)) then
  (Al a0 s1.2).bind fun x1=>
  (a1 x1).bind fun y1=>
  bif y1 then some (LO.ret (s1.2,s1.2)) else some (LO.norm (s1.1,wi .i64 (s1.2 + 1)))
 else some (LO.exit 0 (s1.1,s1.2))
noncomputable def gIF (N:Nat) (a0:List α) (a1:α→Option Bool):Option Int:=
 (Ar (Ws a0 a1) N (0,0)).bind (Ac (fun _=>none) (fun i1 s2=>if i1 = 0 then some (-1) else none) (fun s2=>some s2.1))
theorem GV {xs:List α} {f:α→Option Bool} {q:α→Bool} (hN:xs.length < N) (hb:xs.length≤big) (hq:∀ x∈xs,f x = some (q x)):gIF N xs f = some (ixI (BB (pAt q xs) xs.length)):=by
 unfold gIF
 rw [AG (f:=Ws xs f) (s0:=(0,0)) (fun i=>(0,(i:Int))) xs.length (pAt q xs) (fun i=>.ret ((i:Int),(i:Int))) (.exit 0 (0,(xs.length:Int))) (fun i hi _ hp=>?_) (fun i hi _ hp=>?_) (fun _=>?_) hN rfl]
 ·cases BB (pAt q xs) xs.length <;> rfl
 ·rw [AK hi] at hp
  have hc':(i:Int) < (xs.length:Int):=by omega
  unfold Ws
  simp only [hc',decide_true,cond_true,AS hi,Option.bind_some,hq _ (List.getElem_mem hi),hp,cond_false,wi1 (Nat.le_trans (Nat.le_of_lt hi) hb)]
 ·rw [AK hi] at hp
  have hc':(i:Int) < (xs.length:Int):=by omega
  unfold Ws
  simp only [hc',decide_true,cond_true,AS hi,Option.bind_some,hq _ (List.getElem_mem hi),hp]
  exact ⟨trivial,rfl⟩
 ·unfold Ws
  simp only [Int.lt_irrefl,decide_false,cond_false]
  exact ⟨trivial,rfl⟩
theorem I0 {xs:List α} {f:α→Option Bool} {q:α→Bool} (hN:xs.length < N) (hb:xs.length≤big) (hq:∀ x∈xs,f x = some (q x)):((gIF N xs f).bind fun y1=>some (decide (y1 ≥ 0))) = some (xs.any q):=by
 rw [GV hN hb hq,Option.bind_some,Iz,Cc]
noncomputable def gA0 (bad:α→Bool) (a0:List α) (s1:Bool×Int):Option (LO (Bool×Int)):=
 bif decide (s1.2 < (a0.length:Int)) then
  (Al a0 s1.2).bind fun x1=>
  bif bad x1 then some (LO.ret (false,s1.2)) else some (LO.norm (s1.1,wi .i64 (s1.2 + 1)))
 else some (LO.exit 0 (s1.1,s1.2))
noncomputable def gA (N:Nat) (bad:α→Bool) (a0:List α):Option Bool:=
 (Ar (gA0 bad a0) N (false,0)).bind (Ac (fun _=>none) (fun i1 s2=>if i1 = 0 then some true else none) (fun s2=>some s2.1))
theorem j8 {xs:List α} {q:α→Bool} (hN:xs.length < N) (hb:xs.length≤big):gA N q xs = some (!xs.any q):=by
 unfold gA
 rw [AG (f:=gA0 q xs) (s0:=(false,0)) (fun i=>(false,(i:Int))) xs.length (pAt q xs) (fun i=>.ret (false,(i:Int))) (.exit 0 (false,(xs.length:Int))) (fun i hi _ hp=>?_) (fun i hi _ hp=>?_) (fun _=>?_) hN rfl]
 ·rw [← Cc]
  cases BB (pAt q xs) xs.length <;> rfl
 ·rw [AK hi] at hp
  have hc':(i:Int) < (xs.length:Int):=by omega
  unfold gA0
  simp only [hc',decide_true,cond_true,AS hi,Option.bind_some,hp,cond_false,wi1 (Nat.le_trans (Nat.le_of_lt hi) hb)]
 ·rw [AK hi] at hp
  have hc':(i:Int) < (xs.length:Int):=by omega
  unfold gA0
  simp only [hc',decide_true,cond_true,AS hi,Option.bind_some,hp]
  exact ⟨trivial,rfl⟩
 ·unfold gA0
  simp only [Int.lt_irrefl,decide_false,cond_false]
  exact ⟨trivial,rfl⟩
noncomputable def gIx0 (a0:List Int) (a1:Int) (s1:Int×Int):Option (LO (Int×Int)):=
 bif decide (s1.2 < (a0.length:Int)) then
  (Al a0 s1.2).bind fun x1=>
  bif a1 == x1 then some (LO.ret (s1.2,s1.2)) else some (LO.norm (s1.1,wi .i64 (s1.2 + 1)))
 else some (LO.exit 0 (s1.1,s1.2))
noncomputable def gIx (N:Nat) (a0:List Int) (a1:Int):Option Int:=
 (Ar (gIx0 a0 a1) N (0,0)).bind (Ac (fun _=>none) (fun i1 s2=>if i1 = 0 then some (-1) else none) (fun s2=>some s2.1))
theorem cP {xs:List Int} {v:Int} (hN:xs.length < N) (hb:xs.length≤big):gIx N xs v = some (ixI (BB (pAt (fun x=>v == x) xs) xs.length)):=by
 rw [← GV (f:=fun x=>some (v == x)) hN hb (fun _ _=>rfl)]; rfl
theorem LE {xs:List Int} {v:Int} (hN:xs.length < N) (hb:xs.length≤big):((gIx N xs v).bind fun y1=>some (decide (y1 ≥ 0))) = some (decide (v∈xs)):=by
 rw [cP hN hb,Option.bind_some,Iz,Cc]
 congr 1
 rw [Bool.eq_iff_iff]
 simp
noncomputable def gE0 (ex:Nat) (ne:α→α→Bool) (a0 a1:List α) (s1:Bool×Int):Option (LO (Bool×Int)):=
 bif decide (s1.2 < (a0.length:Int)) then
  (Al a0 s1.2).bind fun x1=>
  (Al a1 s1.2).bind fun x2=>
  bif ne x1 x2 then some (LO.ret (false,s1.2)) else some (LO.norm (s1.1,wi .i64 (s1.2 + 1)))
 else some (LO.exit ex (s1.1,s1.2))
noncomputable def gE (N:Nat) (ne:α→α→Bool) (a0 a1:List α):Option Bool:=
 bif (a0.length:Int) != (a1.length:Int) then some false
 else
  (Ar (gE0 0 ne a0 a1) N (false,0)).bind (Ac (fun _=>none) (fun i1 s2=>if i1 = 0 then some true else none) (fun s2=>some s2.1))
theorem JR [DecidableEq α] {ex:Nat} {ne:α→α→Bool} {xs ys:List α} (hne:∀ a b,ne a b = !decide (a = b)) (hN:xs.length < N) (hb:xs.length≤big) (hl:xs.length = ys.length) :
  (xs = ys∧∃ j,Ar (gE0 ex ne xs ys) N (false,0) = some (.exit ex (false,j)))∨(xs≠ys∧∃ j,Ar (gE0 ex ne xs ys) N (false,0) = some (.ret (false,j))):=by
 have key:=AG (f:=gE0 ex ne xs ys) (N:=N) (s0:=(false,0)) (fun i=>(false,(i:Int))) xs.length (fun i=>!decide (xs[i]? = ys[i]?)) (fun i=>.ret (false,(i:Int))) (.exit ex (false,(xs.length:Int))) (fun i hi _ hp=>by
   have hc':(i:Int) < (xs.length:Int):=by omega
   unfold gE0
   have hp':xs[i] = ys[i]:=by
    simp only [List.getElem?_eq_getElem hi,List.getElem?_eq_getElem (show i < ys.length by omega)] at hp
    simpa using hp
   simp only [hc',decide_true,cond_true,AS hi,AS (show i < ys.length by omega),Option.bind_some,hne,hp',decide_true,Bool.not_true,cond_false,wi1 (Nat.le_trans (Nat.le_of_lt hi) hb)]) (fun i hi _ hp=>by
   have hc':(i:Int) < (xs.length:Int):=by omega
   unfold gE0
   have hp':¬ xs[i] = ys[i]:=by
    simp only [List.getElem?_eq_getElem hi,List.getElem?_eq_getElem (show i < ys.length by omega)] at hp
    simpa using hp
   simp only [hc',decide_true,cond_true,AS hi,AS (show i < ys.length by omega),Option.bind_some,hne,hp',decide_false,Bool.not_false,cond_true]
   exact ⟨trivial,rfl⟩) (fun _=>by
   unfold gE0
   simp only [Int.lt_irrefl,decide_false,cond_false]
   exact ⟨trivial,rfl⟩) hN rfl
 rw [key]
 rcases Cg (fun i=>!decide (xs[i]? = ys[i]?)) xs.length with h | ⟨i,h1,h2,h3⟩
 ·left
  refine ⟨List.ext_getElem? fun i=>?_,_,by rw [D5 h]; rfl⟩
  by_cases hi:i < xs.length
  ·simpa using h i hi
  ·rw [List.getElem?_eq_none (by omega),List.getElem?_eq_none (by omega)]
 ·right
  refine ⟨fun e=>?_,_,by rw [BK h1 h2 h3]; rfl⟩
  subst e
  simp at h3
theorem ZR [DecidableEq α] {ne:α→α→Bool} {xs ys:List α} (hne:∀ a b,ne a b = !decide (a = b)) (hN:xs.length < N) (hb:xs.length≤big):gE N ne xs ys = some (decide (xs = ys)):=by
 unfold gE
 by_cases hl:xs.length = ys.length
 ·have e:((xs.length:Int) != (ys.length:Int)) = false:=by simp [hl]
  rw [e,cond_false]
  rcases JR hne hN hb hl with ⟨h1,j,h2⟩ | ⟨h1,j,h2⟩
  ·rw [h2,decide_eq_true h1]; rfl
  ·rw [h2,decide_eq_false h1]; rfl
 ·have e:((xs.length:Int) != (ys.length:Int)) = true:=by simp; omega
  rw [e,cond_true,decide_eq_false (fun h=>hl (by rw [h]))]
theorem Jm {ne:α→α→Bool} {xs:List α} (hne:∀ a,ne a a = false) (hN:xs.length < N) (hb:xs.length≤big):gE N ne xs xs = some true:=by
 unfold gE
 have e:((xs.length:Int) != (xs.length:Int)) = false:=by simp
 rw [e,cond_false,Cf (f:=gE0 0 ne xs xs) (s0:=(false,0)) (fun i=>(false,(i:Int))) xs.length (.exit 0 (false,(xs.length:Int))) (fun i hi=>?_) ?_ rfl hN rfl]
 ·rfl
 ·unfold gE0
  simp only [Int.lt_irrefl,decide_false,cond_false]
 ·have hc':(i:Int) < (xs.length:Int):=by omega
  unfold gE0
  simp only [hc',decide_true,cond_true,AS hi,Option.bind_some,hne,cond_false,wi1 (Nat.le_trans (Nat.le_of_lt hi) hb)]
noncomputable def Yn (eq:α→α→Option Bool) (a0 a1:List α) (s1:Bool×Int):Option (LO (Bool×Int)):=
 bif decide (s1.2 < (a0.length:Int)) then
  (Al a0 s1.2).bind fun x1=>
  (Al a1 s1.2).bind fun x2=>
  (eq x1 x2).bind fun y1=>
  bif !y1 then some (LO.ret (false,s1.2)) else some (LO.norm (s1.1,wi .i64 (s1.2 + 1)))
 else some (LO.exit 0 (s1.1,s1.2))
noncomputable def gEo (N:Nat) (eq:α→α→Option Bool) (a0 a1:List α):Option Bool:=
 bif (a0.length:Int) != (a1.length:Int) then some false
 else
  (Ar (Yn eq a0 a1) N (false,0)).bind (Ac (fun _=>none) (fun i1 s2=>if i1 = 0 then some true else none) (fun s2=>some s2.1))
theorem MY {eq:α→α→Option Bool} {xs:List α} (hne:∀ a∈xs,eq a a = some true) (hN:xs.length < N) (hb:xs.length≤big):gEo N eq xs xs = some true:=by
 unfold gEo
 have e:((xs.length:Int) != (xs.length:Int)) = false:=by simp
 rw [e,cond_false,Cf (f:=Yn eq xs xs) (s0:=(false,0)) (fun i=>(false,(i:Int))) xs.length (.exit 0 (false,(xs.length:Int))) (fun i hi=>?_) ?_ rfl hN rfl]
 ·rfl
 ·unfold Yn
  simp only [Int.lt_irrefl,decide_false,cond_false]
 ·have hc':(i:Int) < (xs.length:Int):=by omega
  unfold Yn
  simp only [hc',decide_true,cond_true,AS hi,Option.bind_some,hne _ (List.getElem_mem hi),Bool.not_true,cond_false,wi1 (Nat.le_trans (Nat.le_of_lt hi) hb)]
noncomputable def gT0 (t:α→α) (a0:List α) (s1:Int×List α):Option (LO (Int×List α)):=
 bif decide (s1.1 < (a0.length:Int)) then
  (Al a0 s1.1).bind fun x1=>
  (Al s1.2 s1.1).bind fun x2=>
  some (LO.norm (wi .i64 (s1.1 + 1),s1.2.set (Int.toNat s1.1) (t x1)))
 else some (LO.exit 0 (s1.1,s1.2))
noncomputable def gT (N by_:Nat) (z:α) (t:α→α) (a0:List α):Option (List α):=
 (mkO by_ (a0.length:Int) z).bind fun z1=>
 (Ar (gT0 t a0) N (0,z1)).bind (Ac (fun _=>none) (fun i1 s2=>if i1 = 0 then some s2.2 else none) (fun s2=>some []))
noncomputable def Ym (t:α→Option α) (a0:List α) (s1:Int×List α):Option (LO (Int×List α)):=
 bif decide (s1.1 < (a0.length:Int)) then
  (Al a0 s1.1).bind fun x1=>
  (t x1).bind fun y1=>
  (Al s1.2 s1.1).bind fun x2=>
  some (LO.norm (wi .i64 (s1.1 + 1),s1.2.set (Int.toNat s1.1) y1))
 else some (LO.exit 0 (s1.1,s1.2))
noncomputable def gTo (N by_:Nat) (z:α) (t:α→Option α) (a0:List α):Option (List α):=
 (mkO by_ (a0.length:Int) z).bind fun z1=>
 (Ar (Ym t a0) N (0,z1)).bind (Ac (fun _=>none) (fun i1 s2=>if i1 = 0 then some s2.2 else none) (fun s2=>some []))
theorem Om {by_:Nat} {z:α} {t:α→Option α} {xs:List α} (ht:∀ x∈xs,t x = some x) (hN:xs.length < N) (hb:xs.length≤1048576) (hby:by_≤1000):gTo N by_ z t xs = some xs:=by
 unfold gTo
 have hm:mkO by_ (xs.length:Int) z = some (List.replicate xs.length z):=by
  unfold mkO
  rw [if_pos ⟨by omega,by
   rw [Int.toNat_natCast]
   exact Nat.le_trans (Nat.mul_le_mul (show xs.length + 1≤1048577 by omega) (show by_ + 1≤1001 by omega)) (by decide)⟩,Int.toNat_natCast]
 rw [hm,Option.bind_some,Cf (f:=Ym t xs) (s0:=(0,List.replicate xs.length z)) (fun i=>((i:Int),xs.take i++List.replicate (xs.length - i) z)) xs.length (.exit 0 ((xs.length:Int),xs)) (fun i hi=>?_) ?_ rfl hN ?_]
 ·rfl
 ·unfold Ym
  simp only [Int.lt_irrefl,decide_false,cond_false]
  simp
 ·simp
 ·have hc':(i:Int) < (xs.length:Int):=by omega
  unfold Ym
  have hg:(xs.take i++List.replicate (xs.length - i) z)[i]? = some z:=by
   have:=W3 (f:=id) (z:=z) hi
   simpa using this
  have hs:=SJ (f:=id) (z:=z) (List.getElem?_eq_getElem hi)
  simp only [List.map_id,id] at hs
  simp only [hc',decide_true,cond_true,AS hi,jZ hg,Option.bind_some,ht _ (List.getElem_mem hi),wi1 (show i≤1099511627776 by omega),Int.toNat_natCast,hs]
theorem Pw {by_:Nat} {z:α} {t:α→α} {xs:List α} (ht:∀ x,t x = x) (hN:xs.length < N) (hb:xs.length≤1048576) (hby:by_≤1000):gT N by_ z t xs = some xs:=by
 rw [← Om (z:=z) (t:=fun x=>some (t x)) (xs:=xs) (fun x _=>by rw [ht]) hN hb hby]
 rfl
noncomputable def gS0 (e:α→Int→Int) (a0:List α) (s1:Int×Int×Int):Option (LO (Int×Int×Int)):=
 bif decide (s1.2.2 < (a0.length:Int)) then
  (Al a0 s1.2.2).bind fun x1=>
  bif decide ((e x1 s1.1) < 0) then some (LO.ret ((e x1 s1.1),(-1),s1.2.2)) else some (LO.norm ((e x1 s1.1),s1.2.1,wi .i64 (s1.2.2 + 1)))
 else some (LO.exit 0 (s1.1,s1.2.1,s1.2.2))
noncomputable def gS (N:Nat) (e:α→Int→Int) (a0:List α) (a1:Int):Option Int:=
 bif decide ((wi .i64 (a1 - (a0.length:Int))) < 0) then some (-1)
 else
  (Ar (gS0 e a0) N (wi .i64 (a1 - (a0.length:Int)),0,0)).bind (Ac (fun _=>none) (fun i1 s2=>if i1 = 0 then some s2.1 else none) (fun s2=>some s2.2.1))
noncomputable def cM (e:α→Int→Option Int) (a0:List α) (s1:Int×Int×Int):Option (LO (Int×Int×Int)):=
 bif decide (s1.2.2 < (a0.length:Int)) then
  (Al a0 s1.2.2).bind fun x1=>
  (e x1 s1.1).bind fun y1=>
  bif decide (y1 < 0) then some (LO.ret (y1,(-1),s1.2.2)) else some (LO.norm (y1,s1.2.1,wi .i64 (s1.2.2 + 1)))
 else some (LO.exit 0 (s1.1,s1.2.1,s1.2.2))
noncomputable def gSo (N:Nat) (e:α→Int→Option Int) (a0:List α) (a1:Int):Option Int:=
 bif decide ((wi .i64 (a1 - (a0.length:Int))) < 0) then some (-1)
 else
  (Ar (cM e a0) N (wi .i64 (a1 - (a0.length:Int)),0,0)).bind (Ac (fun _=>none) (fun i1 s2=>if i1 = 0 then some s2.1 else none) (fun s2=>some s2.2.1))
def Sz (e:α→Int→Option Int) (ok good:α→Prop):Prop:=∀ x,ok x→∀ l:Int,0≤l→l≤1048576→∃ y,e x l = some y∧(0≤y→y≤l∧good x)
theorem Wr {e:α→Int→Option Int} {ok good:α→Prop} (he:Sz e ok good) (hN:1048576 < N):Sz (gSo N e) (fun xs=>xs.length≤maxLen∧∀ x∈xs,ok x) (fun xs=>xs.length≤1048576∧∀ x∈xs,good x):=by
 rintro xs ⟨hl,hok⟩ l h0 h1
 unfold gSo
 have hml:(maxLen:Int)≤9223372036854775807:=by decide
 rw [Cx (by omega) (by omega)]
 by_cases hc:(l - (xs.length:Int)) < 0
 ·simp only [hc,decide_true,cond_true]
  exact ⟨-1,rfl,fun h=>by omega⟩
 simp only [hc,decide_false,cond_false]
 obtain ⟨o,k1,k2⟩:=DI (f:=cM e xs) (fun i s=>s.2.2 = (i:Int)∧0≤s.1∧s.1≤l∧∀ j (hj:j < xs.length),j < i→good xs[j]) xs.length (fun o=>(∃ s,o = .exit 0 s∧s.1≤l∧∀ j (hj:j < xs.length),good xs[j])∨∃ s,o = .ret s∧s.2.1 = -1)
  (fun i s hi hs=>by
   obtain ⟨a,b,c⟩:=s
   obtain ⟨rfl,g1,g2,g3⟩:=hs
   dsimp only at g1 g2
   unfold cM
   dsimp only
   by_cases hc:i < xs.length
   ·have hc':(i:Int) < (xs.length:Int):=by omega
    obtain ⟨y,hy,hy2⟩:=he xs[i] (hok _ (List.getElem_mem hc)) a g1 (by omega)
    simp only [hc',decide_true,cond_true,AS hc,Option.bind_some,hy]
    by_cases h3:y < 0
    ·simp only [h3,decide_true,cond_true]
     exact .inr (.inr ⟨_,rfl,.inr ⟨_,rfl,rfl⟩⟩)
    ·simp only [h3,decide_false,cond_false]
     obtain ⟨q1,q2⟩:=hy2 (by omega)
     refine .inl ⟨hc,_,rfl,wi1 (by omega),by dsimp only; omega,by dsimp only; omega,fun j hj hji=>?_⟩
     by_cases ej:j = i
     ·subst ej; exact q2
     ·exact g3 j hj (by omega)
   ·have hc':¬ (i:Int) < (xs.length:Int):=by omega
    simp only [hc',decide_false,cond_false]
    exact .inr (.inl ⟨_,_,rfl,.inl ⟨_,rfl,g2,fun j hj=>g3 j hj (by omega)⟩⟩)) N 0 (l - (xs.length:Int),0,0) (Nat.zero_le _) (by omega) ⟨rfl,by dsimp only; omega,by dsimp only; omega,fun j hj h=>by omega⟩
 rw [k1]
 rcases k2 with ⟨s,rfl,g1,g2⟩ | ⟨s,rfl,g1⟩
 ·refine ⟨s.1,by simp [Ac],fun _=>⟨g1,by omega,fun x hx=>?_⟩⟩
  obtain ⟨j,hj,rfl⟩:=List.mem_iff_getElem.1 hx
  exact g2 j hj
 ·exact ⟨s.2.1,by simp [Ac],fun _=>by omega⟩
theorem ZQ {e:α→Int→Int} {ok good:α→Prop} (he:Sz (fun x l=>some (e x l)) ok good) (hN:1048576 < N):Sz (gS N e) (fun xs=>xs.length≤maxLen∧∀ x∈xs,ok x) (fun xs=>xs.length≤1048576∧∀ x∈xs,good x):=Wr he hN
noncomputable def gSl (a0:List α) (a1:Int):Int:=
 bif decide ((wi .i64 (a1 - (a0.length:Int))) < 0) then (-1) else wi .i64 (a1 - (a0.length:Int))
theorem JQ:Sz (fun (xs:List α) l=>some (gSl xs l)) (fun xs=>xs.length≤maxLen) (fun xs=>xs.length≤1048576):=by
 intro xs hl l h0 h1
 have hl:xs.length≤maxLen:=hl
 have hml:(maxLen:Int)≤9223372036854775807:=by decide
 refine ⟨_,rfl,fun h=>?_⟩
 unfold gSl at h ⊢
 rw [Cx (by omega) (by omega)] at h ⊢
 by_cases hc:(l - (xs.length:Int)) < 0
 ·simp only [hc,decide_true,cond_true] at h; omega
 ·simp only [hc,decide_false,cond_false] at h ⊢
  exact ⟨by omega,by show xs.length≤1048576; omega⟩
end
end Go.Rf
