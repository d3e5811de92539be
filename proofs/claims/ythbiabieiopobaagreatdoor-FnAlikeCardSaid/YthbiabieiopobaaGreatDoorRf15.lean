/- Regions whose order is drawn. -/
import Derived.Test.YthbiabieiopobaaGreatDoorRf14
set_option linter.unusedVariables false
set_option linter.unusedSimpArgs false
namespace Go.Rf
open Go
variable {g0:Nat} {X:Nat→Prop} {m:Bd} {A:Nat→Prop} {S:St} {w:World}
theorem Ui {C:Cfg} {run:FuncId→List AV→St→Option (AV×St)} {f:FuncId} {fr fr':List AV} {S:St} (o:Oper) (h:∀ x∈o.op.operands,aev fr x = aev fr' x):aop C run f fr S o = aop C run f fr' S o:=by
 obtain ⟨dst,op,type,pos,after,guard⟩:=o
 have maps:∀ l:List Operand,(∀ x∈l,aev fr x = aev fr' x)→l.map (aev fr) = l.map (aev fr'):=fun l hl=>List.map_congr_left hl
 have pairs:∀ ps:List (Nat×Operand),(∀ x∈ps.map (·.2),aev fr x = aev fr' x)→(ps.map fun (i,x)=>(i,aev fr x)) = (ps.map fun (i,x)=>(i,aev fr' x)):=fun ps hp=>
  List.map_congr_left fun p hm=>by
   obtain ⟨i,x⟩:=p
   simp only [hp x (List.mem_map.2 ⟨(i,x),hm,rfl⟩)]
 have opt:∀ x:Option Operand,(∀ y∈x.toList,aev fr y = aev fr' y)→x.map (aev fr) = x.map (aev fr'):=fun x hx=>by
  cases x with
  | none=>rfl
  | some y=>simp [hx y (by simp)]
 cases op <;> simp only [Op.operands] at h <;> simp only [aop]
 case build t ps=>rw [pairs ps.toList fun x hx=>h x (by simpa using hx)]
 case buildSlice t n ps=>rw [pairs ps.toList fun x hx=>h x (by simpa using hx)]
 case makeFunc fn first captured=>rw [maps captured.toList fun x hx=>h x (by simp; exact .inr (by simpa using hx))]
 case slice t x lo hi mx=>
  rw [h x (by simp),opt lo fun y hy=>h y (by simp at hy ⊢; simp [hy]),opt hi fun y hy=>h y (by simp at hy ⊢; simp [hy]),opt mx fun y hy=>h y (by simp at hy ⊢; simp [hy])]
 case call c=>
  obtain ⟨callee,args,ats⟩:=c
  have ha:args.toList.map (aev fr) = args.toList.map (aev fr'):=maps _ fun x hx=>h x (by simp only [Call.operands,Array.mem_append]; exact .inr (by simpa using hx))
  cases callee with
  | builtin b=>simp only [ha]
  | invoke r mth=>rfl
  | value g=>
   have hg:aev fr g = aev fr' g:=h g (by simp [Call.operands])
   simp only [ha,hg]
 case binOp op t x y yt=>rw [h x (by simp),h y (by simp)]
 all_goals (first | rfl | (simp_all; done))
end Go.Rf
