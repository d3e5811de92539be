/- Printed loops of one shape each: looking for something, likeness, copies, sizes. -/
import Derived.Test.YthbiabieiopobaaGreatDoorRh5
set_option linter.unusedVariables false
set_option linter.unusedSimpArgs false
namespace Go.Rf
open Go
def ixI:Option Nat→Int
 | some i=>(i:Int)
 | none=>-1
theorem H2 (x:Option Nat):decide (ixI x ≥ 0) = x.isSome:=by
 cases x <;> simp [ixI]
abbrev big:Nat:=1099511627776
section
variable {α:Type} {N:Nat}
noncomputable def WC (a0:List α) (a1:α→Option Bool) (s1:Int×Int):Option (LO (Int×Int)):=
 bif decide (s1.2 < (a0.length:Int)) then
  (Av a0 s1.2).bind fun x1=>
  (a1 x1).bind fun y1=>
  bif y1 then some (LO.ret (s1.2,s1.2)) else some (LO.norm (s1.1,wi .i64 (s1.2 + 1)))
 else some (LO.exit 0 (s1.1,s1.2))
noncomputable def gIF (N:Nat) (a0:List α) (a1:α→Option Bool):Option Int:=
 (AB (WC a0 a1) N (0,0)).bind (Ak (fun _=>none) (fun i1 s2=>if i1 = 0 then some (-1) else none) (fun s2=>some s2.1))
theorem IK {xs:List α} {f:α→Option Bool} {q:α→Bool} (hN:xs.length < N) (hb:xs.length≤big) (hq:∀ x∈xs,f x = some (q x)):gIF N xs f = some (ixI (DY (pAt q xs) xs.length)):=by
 unfold gIF
 rw [CM (f:=WC xs f) (s0:=(0,0)) (fun i=>(0,(i:Int))) xs.length (pAt q xs) (fun i=>.ret ((i:Int),(i:Int))) (.exit 0 (0,(xs.length:Int))) (fun i hi _ hp=>?_) (fun i hi _ hp=>?_) (fun _=>?_) hN rfl]
 ·cases DY (pAt q xs) xs.length <;> rfl
 ·rw [Em hi] at hp
  have hc':(i:Int) < (xs.length:Int):=by omega
  unfold WC
  simp only [hc',decide_true,cond_true,BI hi,Option.bind_some,hq _ (List.getElem_mem hi),hp,cond_false,wi1 (Nat.le_trans (Nat.le_of_lt hi) hb)]
 ·rw [Em hi] at hp
  have hc':(i:Int) < (xs.length:Int):=by omega
  unfold WC
  simp only [hc',decide_true,cond_true,BI hi,Option.bind_some,hq _ (List.getElem_mem hi),hp]
  exact ⟨trivial,rfl⟩
 ·unfold WC
  simp only [Int.lt_irrefl,decide_false,cond_false]
  exact ⟨trivial,rfl⟩
theorem IM {xs:List α} {f:α→Option Bool} {q:α→Bool} (hN:xs.length < N) (hb:xs.length≤big) (hq:∀ x∈xs,f x = some (q x)):((gIF N xs f).bind fun y1=>some (decide (y1 ≥ 0))) = some (xs.any q):=by
 rw [IK hN hb hq,Option.bind_some,H2,Gi]
noncomputable def gA0 (bad:α→Bool) (a0:List α) (s1:Bool×Int):Option (LO (Bool×Int)):=
 bif decide (s1.2 < (a0.length:Int)) then
  (Av a0 s1.2).bind fun x1=>
  bif bad x1 then some (LO.ret (false,s1.2)) else some (LO.norm (s1.1,wi .i64 (s1.2 + 1)))
 else some (LO.exit 0 (s1.1,s1.2))
noncomputable def gA (N:Nat) (bad:α→Bool) (a0:List α):Option Bool:=
 (AB (gA0 bad a0) N (false,0)).bind (Ak (fun _=>none) (fun i1 s2=>if i1 = 0 then some true else none) (fun s2=>some s2.1))
noncomputable def gIx0 (a0:List Int) (a1:Int) (s1:Int×Int):Option (LO (Int×Int)):=
 bif decide (s1.2 < (a0.length:Int)) then
  (Av a0 s1.2).bind fun x1=>
  bif a1 == x1 then some (LO.ret (s1.2,s1.2)) else some (LO.norm (s1.1,wi .i64 (s1.2 + 1)))
 else some (LO.exit 0 (s1.1,s1.2))
noncomputable def gIx (N:Nat) (a0:List Int) (a1:Int):Option Int:=
 (AB (gIx0 a0 a1) N (0,0)).bind (Ak (fun _=>none) (fun i1 s2=>if i1 = 0 then some (-1) else none) (fun s2=>some s2.1))
theorem eP {xs:List Int} {v:Int} (hN:xs.length < N) (hb:xs.length≤big):gIx N xs v = some (ixI (DY (pAt (fun x=>v == x) xs) xs.length)):=by
 rw [← IK (f:=fun x=>some (v == x)) hN hb (fun _ _=>rfl)]; rfl
theorem IL {xs:List Int} {v:Int} (hN:xs.length < N) (hb:xs.length≤big):((gIx N xs v).bind fun y1=>some (decide (y1 ≥ 0))) = some (decide (v∈xs)):=by
 rw [eP hN hb,Option.bind_some,H2,Gi]
 congr 1
 rw [Bool.eq_iff_iff]
 simp
noncomputable def gE0 (ex:Nat) (ne:α→α→Bool) (a0 a1:List α) (s1:Bool×Int):Option (LO (Bool×Int)):=
 bif decide (s1.2 < (a0.length:Int)) then
  (Av a0 s1.2).bind fun x1=>
  (Av a1 s1.2).bind fun x2=>
  bif ne x1 x2 then some (LO.ret (false,s1.2)) else some (LO.norm (s1.1,wi .i64 (s1.2 + 1)))
 else some (LO.exit ex (s1.1,s1.2))
noncomputable def gE (N:Nat) (ne:α→α→Bool) (a0 a1:List α):Option Bool:=
 bif (a0.length:Int) != (a1.length:Int) then some false
 else
  (AB (gE0 0 ne a0 a1) N (false,0)).bind (Ak (fun _=>none) (fun i1 s2=>if i1 = 0 then some true else none) (fun s2=>some s2.1))
theorem WE [DecidableEq α] {ex:Nat} {ne:α→α→Bool} {xs ys:List α} (hne:∀ a b,ne a b = !decide (a = b)) (hN:xs.length < N) (hb:xs.length≤big) (hl:xs.length = ys.length) :
  (xs = ys∧∃ j,AB (gE0 ex ne xs ys) N (false,0) = some (.exit ex (false,j)))∨(xs≠ys∧∃ j,AB (gE0 ex ne xs ys) N (false,0) = some (.ret (false,j))):=by
 have key:=CM (f:=gE0 ex ne xs ys) (N:=N) (s0:=(false,0)) (fun i=>(false,(i:Int))) xs.length (fun i=>!decide (xs[i]? = ys[i]?)) (fun i=>.ret (false,(i:Int))) (.exit ex (false,(xs.length:Int))) (fun i hi _ hp=>by
   have hc':(i:Int) < (xs.length:Int):=by omega
   unfold gE0
   have hp':xs[i] = ys[i]:=by
    simp only [List.getElem?_eq_getElem hi,List.getElem?_eq_getElem (show i < ys.length by omega)] at hp
    simpa using hp
   simp only [hc',decide_true,cond_true,BI hi,BI (show i < ys.length by omega),Option.bind_some,hne,hp',decide_true,Bool.not_true,cond_false,wi1 (Nat.le_trans (Nat.le_of_lt hi) hb)]) (fun i hi _ hp=>by
   have hc':(i:Int) < (xs.length:Int):=by omega
   unfold gE0
   have hp':¬ xs[i] = ys[i]:=by
    simp only [List.getElem?_eq_getElem hi,List.getElem?_eq_getElem (show i < ys.length by omega)] at hp
    simpa using hp
   simp only [hc',decide_true,cond_true,BI hi,BI (show i < ys.length by omega),Option.bind_some,hne,hp',decide_false,Bool.not_false,cond_true]
   exact ⟨trivial,rfl⟩) (fun _=>by
   unfold gE0
   simp only [Int.lt_irrefl,decide_false,cond_false]
   exact ⟨trivial,rfl⟩) hN rfl
 rw [key]
 rcases Cd (fun i=>!decide (xs[i]? = ys[i]?)) xs.length with h | ⟨i,h1,h2,h3⟩
 ·left
  refine ⟨List.ext_getElem? fun i=>?_,_,by rw [Cf h]; rfl⟩
  by_cases hi:i < xs.length
  ·simpa using h i hi
  ·rw [List.getElem?_eq_none (by omega),List.getElem?_eq_none (by omega)]
 ·right
  refine ⟨fun e=>?_,_,by rw [Ce h1 h2 h3]; rfl⟩
  subst e
  simp at h3
theorem aE [DecidableEq α] {ne:α→α→Bool} {xs ys:List α} (hne:∀ a b,ne a b = !decide (a = b)) (hN:xs.length < N) (hb:xs.length≤big):gE N ne xs ys = some (decide (xs = ys)):=by
 unfold gE
 by_cases hl:xs.length = ys.length
 ·have e:((xs.length:Int) != (ys.length:Int)) = false:=by simp [hl]
  rw [e,cond_false]
  rcases WE hne hN hb hl with ⟨h1,j,h2⟩ | ⟨h1,j,h2⟩
  ·rw [h2,decide_eq_true h1]; rfl
  ·rw [h2,decide_eq_false h1]; rfl
 ·have e:((xs.length:Int) != (ys.length:Int)) = true:=by simp; omega
  rw [e,cond_true,decide_eq_false (fun h=>hl (by rw [h]))]
noncomputable def gEo0 (eq:α→α→Option Bool) (a0 a1:List α) (s1:Bool×Int):Option (LO (Bool×Int)):=
 bif decide (s1.2 < (a0.length:Int)) then
  (Av a0 s1.2).bind fun x1=>
  (Av a1 s1.2).bind fun x2=>
  (eq x1 x2).bind fun y1=>
  bif !y1 then some (LO.ret (false,s1.2)) else some (LO.norm (s1.1,wi .i64 (s1.2 + 1)))
 else some (LO.exit 0 (s1.1,s1.2))
noncomputable def gEo (N:Nat) (eq:α→α→Option Bool) (a0 a1:List α):Option Bool:=
 bif (a0.length:Int) != (a1.length:Int) then some false
 else
  (AB (gEo0 eq a0 a1) N (false,0)).bind (Ak (fun _=>none) (fun i1 s2=>if i1 = 0 then some true else none) (fun s2=>some s2.1))
noncomputable def gT0 (t:α→α) (a0:List α) (s1:Int×List α):Option (LO (Int×List α)):=
 bif decide (s1.1 < (a0.length:Int)) then
  (Av a0 s1.1).bind fun x1=>
  (Av s1.2 s1.1).bind fun x2=>
  some (LO.norm (wi .i64 (s1.1 + 1),s1.2.set (Int.toNat s1.1) (t x1)))
 else some (LO.exit 0 (s1.1,s1.2))
noncomputable def gT (N by_:Nat) (z:α) (t:α→α) (a0:List α):Option (List α):=
 (mkO by_ (a0.length:Int) z).bind fun z1=>
 (AB (gT0 t a0) N (0,z1)).bind (Ak (fun _=>none) (fun i1 s2=>if i1 = 0 then some s2.2 else none) (fun s2=>some []))
noncomputable def gTo0 (t:α→Option α) (a0:List α) (s1:Int×List α):Option (LO (Int×List α)):=
 bif decide (s1.1 < (a0.length:Int)) then
  (Av a0 s1.1).bind fun x1=>
  (t x1).bind fun y1=>
  (Av s1.2 s1.1).bind fun x2=>
  some (LO.norm (wi .i64 (s1.1 + 1),s1.2.set (Int.toNat s1.1) y1))
 else some (LO.exit 0 (s1.1,s1.2))
noncomputable def gTo (N by_:Nat) (z:α) (t:α→Option α) (a0:List α):Option (List α):=
 (mkO by_ (a0.length:Int) z).bind fun z1=>
 (AB (gTo0 t a0) N (0,z1)).bind (Ak (fun _=>none) (fun i1 s2=>if i1 = 0 then some s2.2 else none) (fun s2=>some []))
noncomputable def gS0 (e:α→Int→Int) (a0:List α) (s1:Int×Int×Int):Option (LO (Int×Int×Int)):=
 bif decide (s1.2.2 < (a0.length:Int)) then
  (Av a0 s1.2.2).bind fun x1=>
  bif decide ((e x1 s1.1) < 0) then some (LO.ret ((e x1 s1.1),(-1),s1.2.2)) else some (LO.norm ((e x1 s1.1),s1.2.1,wi .i64 (s1.2.2 + 1)))
 else some (LO.exit 0 (s1.1,s1.2.1,s1.2.2))
noncomputable def gS (N:Nat) (e:α→Int→Int) (a0:List α) (a1:Int):Option Int:=
 bif decide ((wi .i64 (a1 - (a0.length:Int))) < 0) then some (-1)
 else
  (AB (gS0 e a0) N (wi .i64 (a1 - (a0.length:Int)),0,0)).bind (Ak (fun _=>none) (fun i1 s2=>if i1 = 0 then some s2.1 else none) (fun s2=>some s2.2.1))
noncomputable def gSo0 (e:α→Int→Option Int) (a0:List α) (s1:Int×Int×Int):Option (LO (Int×Int×Int)):=
 bif decide (s1.2.2 < (a0.length:Int)) then
  (Av a0 s1.2.2).bind fun x1=>
  (e x1 s1.1).bind fun y1=>
  bif decide (y1 < 0) then some (LO.ret (y1,(-1),s1.2.2)) else some (LO.norm (y1,s1.2.1,wi .i64 (s1.2.2 + 1)))
 else some (LO.exit 0 (s1.1,s1.2.1,s1.2.2))
noncomputable def gSo (N:Nat) (e:α→Int→Option Int) (a0:List α) (a1:Int):Option Int:=
 bif decide ((wi .i64 (a1 - (a0.length:Int))) < 0) then some (-1)
 else
  (AB (gSo0 e a0) N (wi .i64 (a1 - (a0.length:Int)),0,0)).bind (Ak (fun _=>none) (fun i1 s2=>if i1 = 0 then some s2.1 else none) (fun s2=>some s2.2.1))
def Sz (e:α→Int→Option Int) (ok good:α→Prop):Prop:=∀ x,ok x→∀ l:Int,0≤l→l≤1048576→∃ y,e x l = some y∧(0≤y→y≤l∧good x)
noncomputable def gSl (a0:List α) (a1:Int):Int:=
 bif decide ((wi .i64 (a1 - (a0.length:Int))) < 0) then (-1) else wi .i64 (a1 - (a0.length:Int))
end
end Go.Rf
