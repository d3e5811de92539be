/- Parts of one's own slice; slices.Compact. -/
import Derived.Test.YtilijpnaoefapaaDoorRh1
set_option linter.unusedVariables false
set_option linter.unusedSimpArgs false
namespace Go.Rf
open Go
def viA:AV→Nat→Nat→AV
 | .bsl b i n L fl,lo,hi=>.bsl b (i + lo) (hi - lo) L (fl && hi == n)
 | v,_,_=>v
def viO (n:Nat) (lo hi:Int):Option Unit:=if 0≤lo∧lo≤hi∧hi≤n then some () else none
def getV {α:Type} (xs:List α) (lo hi i:Int):Option α:=if 0≤i∧i < hi - lo then getI xs (lo + i) else none
def cpv:AV→Nat→AV
 | .bsl b i n L fl,k=>.bsl b i k L (fl && k == n)
 | v,_=>v
def cl {α:Type} [e:Enc α] (v:AV) (xs:List α):En where
 ids:=idS v
 ok S:=(v = .rsl false true []∧xs = [])∨∃ b L fl es pl,v = .bsl b 0 L L fl∧S[b]? = some ⟨e.sz,es,pl⟩∧es.length = L∧es.take xs.length = xs.map (e.cs false)∧xs.length≤L∧(pl = true→es.all (·.all plain) = true)
 st S S' h:=by
  rintro (h1 | ⟨b,L,fl,es,pl,rfl,h2,h3⟩)
  ·exact .inl h1
  ·exact .inr ⟨b,L,fl,es,pl,rfl,by rw [h b (by simp [idS])]; exact h2,h3⟩
 lt S h i hi:=by
  rcases h with ⟨rfl,_⟩ | ⟨b,L,fl,es,pl,rfl,h2,_⟩
  ·cases hi
  ·simp only [idS,List.mem_singleton] at hi; subst hi
   exact (List.getElem?_eq_some_iff.1 h2).1
theorem q_cut0 {α ρ τ:Type} [e:Enc α] {L0:List En} {v:AV} {xs ys:List α} {k:St→Option ρ} {m:Option τ} {P:τ→ρ→Prop} (h:ys = xs.take ys.length) (hk:Okh (cl v ys::L0) k m P):Okh (sl false v xs::L0) k m P:=fun S hS=>
 hk S ⟨fun x hx=>by
  rcases List.mem_cons.1 hx with rfl | hx
  ·rcases hS.1 _ (List.mem_cons_self ..) with ⟨h1,h2⟩ | ⟨b,fl,pl,h1,h2,h3⟩
   ·subst h2
    exact .inl ⟨h1,by rw [h]; simp⟩
   ·have hle:ys.length≤xs.length:=by
     have:=congrArg List.length h
     simp only [List.length_take] at this
     omega
    refine .inr ⟨b,xs.length,fl,_,pl,h1,h2,by simp,?_,hle,h3⟩
    rw [← List.map_take,← h]
  ·exact hS.1 x (by simp [hx]),by
  have:=hS.2
  rw [List.pairwise_cons] at this ⊢
  exact this⟩
section
variable {ρ τ:Type} {L:List En} {m:Option τ} {P:τ→ρ→Prop} {α:Type} [e:Enc α] {l:Bool} {v:AV} {xs:List α} {n:Nat}
theorem cv_cl {n:Nat} {q:Bool} (i:Nat) (hL:L[i]? = some (cl v xs)) (hn:e.dp + 2≤n:=by decide):CV n L q (cpv v xs.length) (fun l=>.rsl l false (xs.map (e.cs l))):=fun S hS=>by
 rcases hS.get hL with ⟨rfl,rfl⟩ | ⟨b,L,fl,es,pl,rfl,h2,h3,h4,h5,h6⟩
 ·refine ⟨fun brw k j l hk hj=>?_,fun h k j hk hj=>?_⟩
  ·obtain ⟨k,rfl⟩:∃ j,k = j + 1:=⟨k - 1,by omega⟩
   obtain ⟨j,rfl⟩:∃ i,j = i + 1:=⟨j - 1,by omega⟩
   rfl
  ·obtain ⟨k,rfl⟩:∃ j,k = j + 1:=⟨k - 1,by omega⟩
   obtain ⟨j,rfl⟩:∃ i,j = i + 1:=⟨j - 1,by omega⟩
   rfl
 ·have hf:∀ (brw:Bool) (k:Nat),0 < k→frz brw S (k + 1) (.bsl b 0 xs.length L (fl && xs.length == L)) = .rsl (brw || (!pl && (xs.map (e.cs false)).any (·.any lt))) (fl && xs.length == L) (xs.map (e.cs false)):=by
   intro brw k hk
   simp only [frz,h2,h3,if_true,List.drop_zero,h4]
   cases pl
   ·simp only [Bool.false_eq_true,if_false,Bool.not_false,Bool.true_and]
    rw [map_frz hk]
   ·simp
  refine ⟨fun brw k j l hk hj=>?_,fun h k j hk hj=>?_⟩
  ·obtain ⟨k,rfl⟩:∃ j,k = j + 1:=⟨k - 1,by omega⟩
   obtain ⟨j,rfl⟩:∃ i,j = i + 1:=⟨j - 1,by omega⟩
   show nrm l (j + 1) (frz brw S (k + 1) (.bsl b 0 xs.length L (fl && xs.length == L))) = _
   rw [hf brw k (by omega)]
   simp only [nrm]
   rw [map_nrm (by omega)]
  ·obtain ⟨k,rfl⟩:∃ j,k = j + 1:=⟨k - 1,by omega⟩
   obtain ⟨j,rfl⟩:∃ i,j = i + 1:=⟨j - 1,by omega⟩
   show ltD (j + 1) (frz false S (k + 1) (.bsl b 0 xs.length L (fl && xs.length == L))) = _
   rw [hf false k (by omega)]
   simp only [ltD,inn_lt,Bool.and_false,Bool.or_self,Bool.false_or]
   exact any_ltd (by omega) xs
theorem q_vi {lo hi:Option AV} {i j:Int} {k:AV→St→Option ρ} {mk:Unit→Option τ} (q:Nat) (hL:L[q]? = some (sl l v xs)) (hn:e.sz = n) (hlo:optI lo = (if 0≤i then some (some i.toNat) else none)∨(lo = none∧i = 0)) (hhi:optI hi = (if 0≤j then some (some j.toNat) else none)∨(hi = none∧j = xs.length))
  (hk:0≤i→i≤j→j≤xs.length→Okh L (k (viA v i.toNat j.toNat)) (mk ()) P):Okh L (fun S=>pq (sliceA n v lo hi none S) fun r=>k r S) ((viO xs.length i j).bind mk) P:=fun S hS=>by
 intro t ht
 rw [Option.bind_eq_some_iff] at ht
 obtain ⟨x,hx,hm⟩:=ht
 unfold viO at hx
 split at hx <;> try (cases hx; done)
 rename_i h0
 obtain ⟨h1,h2,h3⟩:=h0
 subst hn
 have hp:sliceA e.sz v lo hi none S = some (viA v i.toNat j.toNat,S):=by
  have o1:(optI lo = some (some i.toNat))∨(optI lo = some none∧i.toNat = 0):=by
   rcases hlo with h | ⟨rfl,rfl⟩
   ·left; rw [h,if_pos h1]
   ·right; exact ⟨rfl,rfl⟩
  have o2:(optI hi = some (some j.toNat))∨(optI hi = some none∧j.toNat = xs.length):=by
   rcases hhi with h | ⟨rfl,rfl⟩
   ·left; rw [h,if_pos (by omega)]
   ·right; exact ⟨rfl,by omega⟩
  rcases hS.get hL with ⟨rfl,rfl⟩ | ⟨b,fl,pl,rfl,q1,q2⟩
  ·have hj:j.toNat = 0:=by simp at h3; omega
   have hi:i.toNat = 0:=by omega
   rcases o1 with o1 | ⟨o1,_⟩ <;> rcases o2 with o2 | ⟨o2,_⟩ <;>
    simp only [sliceA,aslice,o1,o2,show optI none = some none from rfl] <;> simp [hj,hi,viA]
  ·have hle:i.toNat≤j.toNat∧j.toNat≤xs.length:=by omega
   rcases o1 with o1 | ⟨o1,g1⟩ <;> rcases o2 with o2 | ⟨o2,g2⟩ <;>
    simp only [sliceA,aslice,o1,o2,show optI none = some none from rfl,q1] <;> simp [viA,hle.1,hle.2, *] <;> omega
 show ∃ r,pq (sliceA e.sz v lo hi none S) (fun r=>k r S) = some r∧_
 rw [hp]
 exact hk h1 h2 h3 S hS t hm
end
section
variable {ρ τ T:Type} {L:List En} {m:Option τ} {P:τ→ρ→Prop}
end
theorem viA0 (v:AV) (k:Nat):viA v 0 k = cpv v k:=by cases v <;> rfl
def clr (ys:List Int) (i:Int):List Int:=ys.take i.toNat++(List.replicate ((ys.length:Int) - i).toNat 0++ys.drop (ys.length:Int).toNat)
def P3 {X τ:Type} (E:X→τ→AV) (F:τ→List En) (t:τ) (r:AV×St):Prop:=∃ x,r.1 = E x t∧HP r.2 (F t)
noncomputable def optO {T τ:Type} (y:Option T) (a:Option τ) (f:T→Option τ):Option τ:=match y with
 | none=>a
 | some r=>f r
section
variable {ρ τ:Type} {L:List En} {m:Option τ} {P:τ→ρ→Prop}
theorem q_ifT1 {x y:St→Option ρ} (h:Okh L x m P):Okh L (fun S=>ifA (.bool true) (x S) (y S)) m P:=h
theorem q_ifF1 {x y:St→Option ρ} (h:Okh L y m P):Okh L (fun S=>ifA (.bool false) (x S) (y S)) m P:=h
end
end Go.Rf
