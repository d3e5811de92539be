/- Trees in the store: read, written, parted and joined. -/
import Derived.Test.YtilijpnaoefapaaDoorRh8
set_option linter.unusedVariables false
set_option linter.unusedSimpArgs false
namespace Go.Rf
open Go
def flP (o c:Nat):AV→AV
 | .bp b i o' _ L=>.bp b i (o' + o) c L
 | _=>.non
def hole {α γ:Type} [ea:Enc α] [eg:Enc γ] [a:Tr α] [g:Tr γ] (ids i:List Nat) (cs ws:List AV) (put:γ→α):En where
 ids:=ids.filter fun j=>decide (j ∉ i)
 ok S:=(∀ j∈ids,j ∉ i→j < S.length)∧∀ (S':St) (y:γ),(∀ j∈ids,j ∉ i→S'[j]? = S[j]?)→g.ow S' i ws y→a.ow S' ids cs (put y)
 st S S' h:=by
  rintro ⟨h1,h2⟩
  have h':∀ j∈ids,j ∉ i→S'[j]? = S[j]?:=fun j hj hji=>h j (by simp [hj,hji])
  refine ⟨fun j hj hji=>?_,fun S'' y hS hy=>h2 S'' y (fun j hj hji=>(hS j hj hji).trans (h' j hj hji)) hy⟩
  have h3:=h1 j hj hji
  have h4:=h' j hj hji
  rw [List.getElem?_eq_getElem h3] at h4
  exact (List.getElem?_eq_some_iff.1 h4).1
 lt S h j hj:=by
  simp only [List.mem_filter,decide_eq_true_eq] at hj
  exact h.1 j hj.1 hj.2
noncomputable def letO {T τ:Type} (x:T) (f:T→Option τ):Option τ:=f x
section
variable {ρ τ:Type} {L:List En} {m:Option τ} {P:τ→ρ→Prop}
theorem HP.part {α γ:Type} [ea:Enc α] [eg:Enc γ] [a:Tr α] [g:Tr γ] {S:St} {ids i:List Nat} {cs ws:List AV} {put:γ→α} {x:α} {y:γ} (hS:HP S (tr ids cs x::L)) (h1:g.ow S i ws y) (hi:∀ j∈i,j∈ids) (hc:∀ (S':St) (y:γ),(∀ j∈ids,j ∉ i→S'[j]? = S[j]?)→g.ow S' i ws y→a.ow S' ids cs (put y)):HP S (tr i ws y::hole ids i cs ws put::L):=by
 have h0:a.ow S ids cs x:=hS.get (k:=0) rfl
 have hp:=List.pairwise_cons.1 hS.2
 refine ⟨fun en hen=>?_,List.pairwise_cons.2 ⟨fun en hen j hj hin=>?_,List.pairwise_cons.2 ⟨fun en hen j hj hin=>?_,hp.2⟩⟩⟩
 ·rcases List.mem_cons.1 hen with rfl | hen
  ·exact h1
  ·rcases List.mem_cons.1 hen with rfl | hen
   ·exact ⟨fun j hj _=>a.lt h0 j hj,hc⟩
   ·exact hS.1 en (by simp [hen])
 ·rcases List.mem_cons.1 hen with rfl | hen
  ·simp only [hole,List.mem_filter,decide_eq_true_eq] at hin
   exact hin.2 hj
  ·exact hp.1 en hen j (hi j hj) hin
 ·simp only [hole,List.mem_filter,decide_eq_true_eq] at hj
  exact hp.1 en hen j hj.1 hin
section
variable {α:Type} [e:Enc α] [t:Tr α] {ids:List Nat} {v:AV} {xs:List α} {n:Nat}
def tra (ids:List Nat) (v:AV) (xs:List α):En where
 ids:=ids
 ok S:=trList.ow S ids [v] xs∧(∀ fl,v = .rsl false fl []→fl = true)∧∀ b n L fl,v = .bsl b 0 n L fl→L = n
 st _ _ h hh:=⟨trList.st h hh.1,hh.2⟩
 lt _ h:=trList.lt h.1
end
end
end Go.Rf
