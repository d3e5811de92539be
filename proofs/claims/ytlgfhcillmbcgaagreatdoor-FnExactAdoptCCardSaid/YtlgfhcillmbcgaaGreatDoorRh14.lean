/- A row that is put behind a row of weak rows; slices of trees that come back and may grow. -/
import Derived.Test.YtlgfhcillmbcgaaGreatDoorRh13
set_option linter.unusedVariables false
set_option linter.unusedSimpArgs false
namespace Go.Rf
open Go
theorem CVs.any {n:Nat} {L:List En} {q:Bool} {c:List AV} {f:Bool→List AV} (h:CVs n [] q c f):CVs n L q c f:=fun S _=>h S HP.nil
section
variable {ρ τ:Type} {L:List En} {m:Option τ} {P:τ→ρ→Prop}
end
section
variable {α:Type} [e:Enc α]
def P8 (ids:List Nat) (v:AV) (xs:List α) (L:List En) (t:List α×Int) (r:AV×St):Prop:=
 ((t.2 == 0) = true∧∃ ids' w,r.1 = .tup [w,.int .i64 t.2]∧HP r.2 (wls ids' w t.1::L))∨((t.2 == 0) = false∧r.1 = .tup [.rsl false true [],.int .i64 t.2]∧HP r.2 (wls ids v xs::L))
section
variable {ρ τ:Type} {L:List En} {P:τ→ρ→Prop}
end
end
theorem cv_bp {n:Nat} {L:List En} {q:Bool} {b o m:Nat} {cs:List AV} (i:Nat) (hL:L[i]? = some (bx b cs)) (hp:((cs.drop o).take m).all plain = true) (hn:0 < n:=by decide):CV (n + 1) L q (.bp b 0 o m 1) (fun l=>.rp l ((cs.drop o).take m)):=fun S hS=>by
 have hpl:=List.all_eq_true.1 hp
 obtain ⟨pl,h2,h3⟩:=hS.get hL
 have e:∀ (brw:Bool) (k:Nat),0 < k→((cs.drop o).take m).map (frz brw S k) = (cs.drop o).take m:=fun brw k hk=>by
  calc _ = ((cs.drop o).take m).map id:=List.map_congr_left fun a ha=>frz_plain (hpl a ha) hk
   _ = _:=by simp
 have hlt:((cs.drop o).take m).any lt = false:=by
  rw [List.any_eq_false]
  intro a ha
  have:=hpl a ha
  cases a <;> simp [plain] at this <;> simp [lt]
 refine ⟨fun brw k j l hk hj=>?_,fun h0 k j hk hj=>?_⟩
 ·obtain ⟨k,rfl⟩:∃ j,k = j + 1:=⟨k - 1,by omega⟩
  obtain ⟨j,rfl⟩:∃ i,j = i + 1:=⟨j - 1,by omega⟩
  have e2:((cs.drop o).take m).map (nrm l j) = (cs.drop o).take m:=by
   calc _ = ((cs.drop o).take m).map id:=List.map_congr_left fun a ha=>nrm_plain (hpl a ha)
    _ = _:=by simp
  simp only [frz,h2,List.length_singleton,if_true,List.getElem?_cons_zero]
  cases pl
  ·simp only [Bool.false_eq_true,if_false,nrm,e brw k (by omega),e2]
  ·simp only [if_true,nrm,e2]
 ·obtain ⟨k,rfl⟩:∃ j,k = j + 1:=⟨k - 1,by omega⟩
  obtain ⟨j,rfl⟩:∃ i,j = i + 1:=⟨j - 1,by omega⟩
  have e2:((cs.drop o).take m).any (ltD j) = false:=by
   rw [List.any_eq_false]
   intro a ha
   rw [ltD_plain (hpl a ha) (by omega)]
   simp
  simp only [frz,h2,List.length_singleton,if_true,List.getElem?_cons_zero]
  cases pl
  ·simp only [Bool.false_eq_true,if_false,ltD,e false k (by omega),hlt,e2,Bool.or_false]
  ·simp only [if_true,ltD,e2,Bool.or_false]
section
variable {α:Type} [e:Enc α] [t:Tr α]
def Qa (v:AV):Prop:=(∀ fl,v = .rsl false fl []→fl = true)∧∀ b n L fl,v = .bsl b 0 n L fl→L = n
def P1a (x:List α) (r:AV×St):Prop:=∃ ids,trList.ow r.2 ids [r.1] x∧Qa r.1
section
variable {ρ τ:Type} {L:List En} {P:τ→ρ→Prop}
end
end
end Go.Rf
