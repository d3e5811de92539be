/- Calls that give memory of their own; trees built, read and written. -/
import Derived.Test.YtgjljhchmokhfaaGreatRh7
set_option linter.unusedVariables false
set_option linter.unusedSimpArgs false
namespace Go.Rf
open Go
def P1 {T:Type} [e:Enc T] [t:Tr T] (W:List AV→AV) (x:T) (r:AV×St):Prop:=∃ ids cs,r.1 = W cs∧t.ow r.2 ids cs x
def Sh (W:List AV→AV):Prop:=∀ (d:Nat) (cs:List AV),shv d (AO (W cs)) = W (cs.map fun a=>shv d (AO a))
def one1 (cs:List AV):AV:=cs.headD (.int .i64 0)
section
variable {ρ τ:Type} {L:List En} {m:Option τ} {P:τ→ρ→Prop}
end
def TB {α:Type} [e:Enc α] [t:Tr α] (L:List En) (us:List Nat) (cs:List AV) (x:α):Prop:=∀ S,HP S L→∃ ids,t.ow S ids cs x∧∀ i∈ids,∃ u∈us,∃ en,L[u]? = some en∧i∈en.ids
theorem AN {L:List En} {n:Int}:TB L [] [.int .i64 n] n:=fun S _=>⟨[],⟨rfl,rfl⟩,fun i hi=>by cases hi⟩
theorem Ft {α:Type} [e:Enc α] [t:Tr α] {L:List En} {fl:Bool}:TB L [] [.rsl false fl []] ([]:List α):=fun S _=>⟨[],⟨_,rfl,.inl ⟨fl,rfl,rfl,rfl⟩⟩,fun i hi=>by cases hi⟩
theorem J7 {α:Type} [e:Enc α] [t:Tr α] {S:St} {l:Bool} (hp:∀ x:α,t.ow S [] (e.cs l x) x):∀ xs:List α,AZ (t.ow S) (xs.map (e.cs l)) xs (xs.map fun _=>[])
 | []=>trivial
 | x::xs=>⟨hp x,J7 hp xs⟩
theorem Lm {α:Type} [e:Enc α] [t:Tr α] {L:List En} {l:Bool} {v:AV} {xs:List α} (u:Nat) (hL:L[u]? = some (sl l v xs)) (hp:∀ (S:St) (x:α),t.ow S [] (e.cs l x) x):TB L [u] [v] xs:=fun S hS=>by
 rcases hS.get hL with ⟨rfl,rfl⟩ | ⟨b,fl,pl,rfl,h2,h3⟩
 ·exact ⟨[],⟨_,rfl,.inl ⟨true,rfl,rfl,rfl⟩⟩,fun i hi=>by cases hi⟩
 ·have hf:(xs.map fun _=>([]:List Nat)).flatten = []:=by
   rw [List.flatten_eq_nil_iff]
   intro a ha
   obtain ⟨_,_,rfl⟩:=List.mem_map.1 ha
   rfl
  refine ⟨[b],⟨_,rfl,.inr ⟨b,fl,pl,_,_,[],rfl,by rw [List.append_nil]; exact h2,by rw [List.append_nil]; exact h3,J7 (hp S) xs,by rw [hf],by simp⟩⟩,fun i hi=>⟨u,by simp,_,hL,hi⟩⟩
theorem AA {α β:Type} [ea:Enc α] [eb:Enc β] [a:Tr α] [b:Tr β] {L:List En} {u1 u2:List Nat} {c1 c2:List AV} {x:α} {y:β} (h1:TB L u1 c1 x) (h2:TB L u2 c2 y) (hd:∀ u∈u1,u ∉ u2:=by decide):TB L (u1++u2) (c1++c2) (x,y):=fun S hS=>by
 obtain ⟨i1,k1,k2⟩:=h1 S hS
 obtain ⟨i2,q1,q2⟩:=h2 S hS
 refine ⟨i1++i2,⟨i1,i2,c1,c2,rfl,?_,rfl,k1,q1⟩,fun i hi=>?_⟩
 ·rw [List.nodup_append]
  refine ⟨a.nd k1,b.nd q1,fun i hi j hj e=>?_⟩
  subst e
  obtain ⟨u,hu,en,hl,hin⟩:=k2 i hi
  obtain ⟨w,hw,en',hl',hin'⟩:=q2 i hj
  have hne:u≠w:=fun e=>hd u hu (e ▸ hw)
  have hp:=List.pairwise_iff_getElem.1 hS.2
  obtain ⟨hul,rfl⟩:=List.getElem?_eq_some_iff.1 hl
  obtain ⟨hwl,rfl⟩:=List.getElem?_eq_some_iff.1 hl'
  rcases Nat.lt_or_gt_of_ne hne with q | q
  ·exact hp u w hul hwl q i hin hin'
  ·exact hp w u hwl hul q i hin' hin
 ·rcases List.mem_append.1 hi with hi | hi
  ·obtain ⟨u,hu,r⟩:=k2 i hi
   exact ⟨u,List.mem_append_left _ hu,r⟩
  ·obtain ⟨u,hu,r⟩:=q2 i hi
   exact ⟨u,List.mem_append_right _ hu,r⟩
theorem HG {α β:Type} [ea:Enc α] [eb:Enc β] [a:Tr α] [b:Tr β] {L:List En} {us:List Nat} {cs:List AV} {f:α→β} {x:α} (h:(fun S ids cs=>a.ow S ids cs x) = fun S ids cs=>b.ow S ids cs (f x)) (hb:TB L us cs (f x)):TB L us cs x:=fun S hS=>by
 obtain ⟨ids,h1,h2⟩:=hb S hS
 refine ⟨ids,?_,h2⟩
 have:=congrFun (congrFun (congrFun h S) ids) cs
 exact this.symm ▸ h1
def Up {α:Type} [e:Enc α] [t:Tr α] (o:Nat) (c:AV) (f:α→α):Prop:=∀ (S:St) (ids:List Nat) (cs:List AV) (x:α),t.ow S ids cs x→o < cs.length∧t.ow S ids (cs.set o c) (f x)
section
variable {α β:Type} [ea:Enc α] [eb:Enc β] [a:Tr α] [b:Tr β]
def Fo {γ:Type} [eg:Enc γ] [g:Tr γ] (o:Nat) (get:α→γ) (set:γ→α→α):Prop:=∀ (S:St) (ids:List Nat) (cs:List AV) (x:α),a.ow S ids cs x→o + eg.sz≤cs.length∧∃ i,g.ow S i ((cs.drop o).take eg.sz) (get x)∧(∀ j∈i,j∈ids)∧∀ (S':St) (y:γ),(∀ j∈ids,j ∉ i→S'[j]? = S[j]?)→g.ow S' i ((cs.drop o).take eg.sz) y→a.ow S' ids cs (set y x)
end
section
variable {α β:Type} [ea:Enc α] [eb:Enc β] [a:Tr α] [b:Tr β] {S:St} {l:Bool}
theorem EP (x:Int):Tr.ow S [] (Enc.cs l x) x:=⟨rfl,rfl⟩
theorem N1 (h1:∀ x:α,a.ow S [] (ea.cs l x) x) (h2:∀ x:β,b.ow S [] (eb.cs l x) x) (x:α×β):Tr.ow S [] (Enc.cs l x) x:=⟨[],[],_,_,rfl,List.nodup_nil,rfl,h1 _,h2 _⟩
end
section
variable {α β:Type} [ea:Enc α] [eb:Enc β] [a:Tr α] [b:Tr β] {S:St}
theorem FF {c1 c2:List AV} {x:α} {y:β} (h1:a.ow S [] c1 x) (h2:b.ow S [] c2 y):Tr.ow S [] (c1++c2) (x,y):=⟨[],[],_,_,rfl,List.nodup_nil,rfl,h1,h2⟩
theorem OL {fl:Bool}:Tr.ow S [] [AV.rsl false fl []] ([]:List α):=⟨_,rfl,.inl ⟨fl,rfl,rfl,rfl⟩⟩
end
end Go.Rf
