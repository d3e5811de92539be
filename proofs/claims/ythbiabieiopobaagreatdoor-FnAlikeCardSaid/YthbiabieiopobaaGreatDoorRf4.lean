/- The operations, one by one: what the evaluator says is what the machine does. -/
import Derived.Test.YthbiabieiopobaaGreatDoorRf3
import Derived.Laws.Append
set_option linter.unusedVariables false
set_option linter.unusedSimpArgs false
namespace Go.Rf
open Go
variable {g0:Nat} {X:Nat→Prop} {m:Bd} {A:Nat→Prop} {S:St} {w:World} {P:Program}
def Ok (P:Program) (g0:Nat) (X:Nat→Prop) (m:Bd) (A:Nat→Prop) (S:St) (w:World) (s:Sem Value) (v:AV) (S1:St):Prop:=
 ∃ m' A' w' cv,s.run P w = .ok cv w'∧Rel g0 X m' A' S1 w'∧Ext m A S w m' A' S1 w'∧VR X m' A' S1 w' v cv
theorem Ok.stay (hr:Rel g0 X m A S w) {s:Sem Value} {v:AV} {cv:Value} (h:s.run P w = .ok cv w) (hv:VR X m A S w v cv):Ok P g0 X m A S w s v S:=
 ⟨m,A,w,cv,h,hr,Ext.refl _ _ _ _,hv⟩
theorem VR.ofC (v:Value):VR X m A S w (ofC v) v:=by
 unfold Rf.ofC
 split
 ·exact .int _ _
 ·exact .bool _
 ·exact .str _
 ·exact .nilp
 ·exact .rsl0 _ _ _ _ (fun _=>rfl)
 ·exact .nilf
 ·exact .nili
 ·exact .non _
 ·exact .non _
 ·rename_i h1 h2
  refine .dead _ ?_
  cases v <;> first | rfl | exact absurd rfl (h1 _) | exact absurd rfl (h2 _)
theorem VR.ofV (v:Value):VR X m A S w (ofV v) v:=by
 unfold Rf.ofV
 split
 ·rename_i cs
  split
  ·rename_i h
   refine .agg _ _ (by simp) (fun a ha=>List.all_eq_true.1 h a ha) (fun i a v hi hv=>?_)
   simp only [List.getElem?_map,Array.getElem?_toList] at hi
   rw [hv] at hi
   simp at hi; subst hi
   exact VR.ofC v
  ·exact .non _
 ·exact VR.ofC v
theorem VR.und:VR X m A S w und undef:=.tup [] #[] rfl (fun i a v h _=>by simp at h)
def FR (X:Nat→Prop) (m:Bd) (A:Nat→Prop) (S:St) (w:World) (fr:List AV) (a:Act):Prop:=
 fr.length = a.tmps.size∧(∀ (t:Nat) (v:AV) (cv:Value),fr[t]? = some v→a.tmps[t]? = some cv→VR X m A S w v cv)
theorem FR.eval {fr:List AV} {a:Act} (hf:FR X m A S w fr a) (x:Operand):VR X m A S w (aev fr x) (a.eval x):=by
 cases x with
 | tmp t=>
  simp only [aev,Act.eval]
  by_cases ht:t < fr.length
  ·have ht':t < a.tmps.size:=hf.1 ▸ ht
   exact hf.2 t _ _ (by simp [List.getD,ht]) (by simp [Array.getD,ht'])
  ·have ht':¬ t < a.tmps.size:=hf.1 ▸ ht
   have e1:fr.getD t Rf.und = Rf.und:=by simp [List.getD,ht]
   have e2:a.tmps.getD t undef = undef:=by simp [Array.getD,ht']
   rw [e1,e2]; exact VR.und
 | const v=>exact VR.ofV v
 | global g=>exact .non _
 | func f=>exact .fn f [] #[] rfl (fun i a v h _=>by simp at h)
theorem FR.mono {m':Bd} {A':Nat→Prop} {S':St} {w':World} {fr:List AV} {a:Act} (hf:FR X m A S w fr a) (hr:Rel g0 X m A S w) (he:Ext m A S w m' A' S' w'):FR X m' A' S' w' fr a:=
 ⟨hf.1,fun t v cv h1 h2=>(hf.2 t v cv h1 h2).mono hr he⟩
theorem FR.put {fr:List AV} {a:Act} (hf:FR X m A S w fr a) {v:AV} {cv:Value} (hv:VR X m A S w v cv) (d:Option Tmp):FR X m A S w (DG fr d v) (a.put d cv):=by
 cases d with
 | none=>exact hf
 | some d=>
  refine ⟨by simp [DG,Act.put,hf.1],fun t v' cv' h1 h2=>?_⟩
  simp only [DG,Act.put] at h1 h2
  by_cases e:d = t
  ·subst e
   have hd:d < fr.length:=by have:=(List.getElem?_eq_some_iff.1 h1).1; simpa using this
   have hd':d < a.tmps.size:=hf.1 ▸ hd
   simp [hd] at h1
   simp [hd'] at h2
   subst h1; subst h2; exact hv
  ·rw [List.getElem?_set_ne e] at h1
   rw [Array.getElem?_setIfInBounds_ne e] at h2
   exact hf.2 t v' cv' h1 h2
theorem FI (hr:Rel g0 X m A S w) {p:AV} {v:Value} (hp:VR X m A S w p v) {cs:List AV} (h:BY S p = some cs) :
  ∃ blk off,∃ val:Nat→Value,v = .pointer (some ⟨blk,off,none⟩)∧(∀ j,j < cs.length→w.cell? ⟨blk,off + j,none⟩ = some (val j)) ∧
   (∀ (j:Nat) (a:AV),cs[j]? = some a→VR X m A S w a (val j))∧(∀ a∈cs,Bv a = true):=by
 cases hp with
 | rp l cs' blk off val hA hX hce hc hv=>
  simp [BY] at h; subst h
  exact ⟨blk,off,val,rfl,hc,hv,fun a ha=>H3 (hce a ha)⟩
 | bp b i o n L ad B hB hL hb=>
  simp only [BY,hB] at h
  split at h <;> try (cases h; done)
  rename_i e
  split at h <;> try (cases h; done)
  rename_i el hi
  injection h with h; subst h
  obtain ⟨blk,base,h1,h2,h3,rfl⟩:=hb e
  obtain ⟨B1,hB1,hb1⟩:=hr.box b blk base h1
  rw [hB] at hB1; injection hB1 with hB1; subst hB1
  obtain ⟨arr,ty,g1,g2,g3⟩:=hb1.blk
  have hel:el.length = B.sz:=hb1.len el (List.mem_of_getElem? hi)
  have hval:∀ j,j < ((el.drop o).take n).length→∃ v,arr[base + (i * B.sz + (o + j))]? = some v∧∀ a,((el.drop o).take n)[j]? = some a→VR X m A S w a v:=by
   intro j hj
   have hj':o + j < el.length:=by simp at hj; omega
   have hel':el[o + j]? = some el[o + j]:=List.getElem?_eq_getElem hj'
   obtain ⟨v,h5,h6⟩:=g3 i el (o + j) _ hi hel'
   refine ⟨v,h5,fun a ha=>?_⟩
   rw [List.getElem?_take,List.getElem?_drop] at ha
   split at ha
   ·rw [hel'] at ha; injection ha with ha; subst ha; exact h6
   ·cases ha
  refine ⟨blk,base + (i * B.sz + o),fun j=>(arr[base + (i * B.sz + (o + j))]?).getD default,rfl,fun j hj=>?_,fun j a ha=>?_,fun a ha=>?_⟩
  ·obtain ⟨v,h5,_⟩:=hval j hj
   rw [cell_of_row w blk _ arr ty (0,0) g1]
   have e5:base + (i * B.sz + o) + j = base + (i * B.sz + (o + j)):=by omega
   rw [e5]; simp [h5]
  ·have hj:j < ((el.drop o).take n).length:=(List.getElem?_eq_some_iff.1 ha).1
   obtain ⟨v,h5,h6⟩:=hval j hj
   have:=h6 a ha
   simpa [h5] using this
  ·exact hb1.cell el (List.mem_of_getElem? hi) a (List.mem_of_mem_drop (List.mem_of_mem_take ha))
 | _=>simp [BY] at h
theorem GH (w:World) (blk off:Nat) (val:Nat→Value) (n:Nat) (h:∀ j,j < n→w.cell? ⟨blk,off + j,none⟩ = some (val j)) :
  (loadCells ⟨blk,off,none⟩ n).run P w = .ok ((List.range n).map val).toArray w:=
 run_loadCells w ⟨blk,off,none⟩ n val (fun j hj=>by rw [Addr.add_lit]; exact h j hj)
theorem Ef {t:TypeId} {d:TypeDesc} (h:P.underlying t = some d) (w:World):(isAgg t).run P w = .ok (EZ d) w:=by
 simp only [isAgg,Sem.run_bind,run_underlying h,Result.andThen_ok]
 cases d <;> rfl
theorem DW {t:TypeId} {i:TypeInfo} (h:P.info? t = some i) (w:World):(sizeOf t).run P w = .ok i.size w:=by
 simp [sizeOf,typeInfo,h]
theorem H4 {t:TypeId} {d:TypeDesc} (h:P.underlying t = some d):∃ i,P.info? t = some i:=by
 unfold Program.underlying at h
 cases e:P.info? t with
 | none=>rw [e] at h; cases h
 | some i=>exact ⟨i,rfl⟩
theorem Fg {t:TypeId} {d:TypeDesc} (h:P.underlying t = some d) (w:World):(sizeOf t).run P w = .ok (P.cellsOf t) w:=by
 obtain ⟨i,hi⟩:=H4 h
 rw [DW hi]; simp [Program.cellsOf,hi]
theorem Y7 (hr:Rel g0 X m A S w) {p v:AV} {cv:Value} (hp:VR X m A S w p cv) {t:TypeId} {d:TypeDesc} (hu:P.underlying t = some d)
  (h:(if EZ d then ldA S p (P.cellsOf t) else ld1 S p) = some v):Ok P g0 X m A S w (Instr.loadAt t cv) v S:=by
 by_cases hd:EZ d = true
 ·simp only [hd,if_true,ldA] at h
  split at h <;> try (cases h; done)
  rename_i cs hcs
  split at h <;> try (cases h; done)
  rename_i hl
  injection h with h; subst h
  obtain ⟨blk,off,val,rfl,h1,h2,h3⟩:=FI hr hp hcs
  refine Ok.stay hr (cv:=.agg ((List.range cs.length).map val).toArray) ?_ (.agg _ _ (by simp) h3 (fun i a v hi hv=>?_))
  ·simp [Instr.loadAt,Instr.sureAddr,loadVar,Ef hu,hd,Fg hu,← hl,GH w blk off val _ h1]
  ·have hi':=(List.getElem?_eq_some_iff.1 hi).1
   simp [hi'] at hv
   subst hv
   exact h2 i a hi
 ·simp only [hd,if_false,Bool.false_eq_true,ld1] at h
  split at h <;> try (cases h; done)
  rename_i c hcs
  injection h with h; subst h
  obtain ⟨blk,off,val,rfl,h1,h2,h3⟩:=FI hr hp hcs
  have h1':=h1 0 (by simp)
  simp only [Nat.add_zero] at h1'
  refine Ok.stay hr (cv:=val 0) ?_ (h2 0 _ rfl)
  simp [Instr.loadAt,Instr.sureAddr,loadVar,Ef hu,hd,h1']
theorem Gn (e:List AV) (o:Nat) (cs:List AV) (h:o + cs.length≤e.length):(BL e o cs).length = e.length:=by
 simp [BL]; omega
theorem Ek (e:List AV) (o:Nat) (cs:List AV) (h:o + cs.length≤e.length) (j:Nat) :
  (BL e o cs)[j]? = if o≤j∧j < o + cs.length then cs[j - o]? else e[j]?:=by
 unfold BL
 rw [List.getElem?_append,List.getElem?_append,List.getElem?_take,List.getElem?_drop]
 simp only [List.length_take]
 by_cases h1:j < o
 ·simp [h1,Nat.not_le.mpr h1]; omega
 ·by_cases h2:j < o + cs.length
  ·have e1:min o e.length = o:=by omega
   simp [e1,h1,Nat.le_of_not_lt h1,h2]; omega
  ·have e1:min o e.length = o:=by omega
   simp [e1,h1,h2]
   rw [if_neg (by omega)]
   congr 1; omega
theorem XQ (cs:List AV) (vs:Array Value) (h:cs.length = vs.size) (hv:∀ (j:Nat) (x:AV),cs[j]? = some x→∃ u,vs[j]? = some u∧VR X m A S w x u) (hc:∀ x∈cs,Bv x = true) :
  ∀ v∈vs.toList,v.oneCell' = true:=by
 intro v hv'
 obtain ⟨j,hj⟩:=List.mem_iff_getElem?.1 hv'
 have hjl:j < vs.size:=by have:=(List.getElem?_eq_some_iff.1 hj).1; simpa using this
 have hx:cs[j]? = some cs[j]:=List.getElem?_eq_getElem (by omega)
 obtain ⟨u,hu,hr⟩:=hv j _ hx
 have:u = v:=by
  have e:vs[j]? = some v:=by simpa using hj
  rw [hu] at e; injection e
 subst this
 exact hr.oneCell (hc _ (List.getElem_mem _))
theorem Uz (hr:Rel g0 X m A S w) {p x:AV} {cp cx:Value} (hp:VR X m A S w p cp) (hx:VR X m A S w x cx) {t:TypeId} {i:TypeInfo} (hi:P.info? t = some i)
  (hl:(AK x).length = i.size) (h0:i.size≠0) {S1:St} (h:stA S p (AK x) = some S1) :
  ∃ w',(Instr.storeAt t cp cx).run P w = .ok () w'∧Rel g0 X m A S1 w'∧Ext m A S w m A S1 w':=by
 cases hp with
 | bp b k o n L ad B hB hL hb=>
  simp only [stA,hB] at h
  split at h <;> try (cases h; done)
  rename_i e
  split at h <;> try (cases h; done)
  rename_i el hel
  injection h with h; subst h
  obtain ⟨e1,e2⟩:=e
  obtain ⟨blk,base,h1,h2,h3,rfl⟩:=hb e1
  obtain ⟨B1,hB1,hb1⟩:=hr.box b blk base h1
  rw [hB] at hB1; injection hB1 with hB1; subst hB1
  obtain ⟨arr,ty,g1,g2,g3⟩:=hb1.blk
  have hk:k < B.es.length:=by omega
  have hell:el.length = B.sz:=hb1.len el (List.mem_of_getElem? hel)
  have hmul:k * B.sz + B.sz≤B.es.length * B.sz:=by
   have:=Nat.mul_le_mul_right B.sz (show k + 1≤B.es.length by omega)
   rw [Nat.add_mul,Nat.one_mul] at this; exact this
  obtain ⟨c1,c2,c3⟩:=hx.cells (by omega)
  have hput:o + (AK x).length≤el.length:=by omega
  have hst:=run_storeCells_at P blk (base + (k * B.sz + o)) ty cx.cells.toList 0 arr w g1 (by simp; omega) (XQ _ _ c1 c3 c2)
  simp only [Nat.add_zero] at hst
  refine ⟨_,?_,hr.setBox (B:=B) (B':={ B with es:=B.es.set k (BL el o (AK x)),pl:=B.pl && (AK x).all AC }) h1 hB g1 (arr':=(arr.toList.take (base + (k * B.sz + o))++cx.cells.toList++arr.toList.drop (base + (k * B.sz + o) + cx.cells.toList.length)).toArray)
   (by simp; omega) rfl (by simp) ?_ ?_ ?_ (by simpa using g2) ?_⟩
  ·simp [Instr.storeAt,Instr.sureAddr,storeVar,DW hi,← c1,hl,hst]
  ·intro e' he'
   rcases List.mem_or_eq_of_mem_set he' with h' | h'
   ·exact hb1.len e' h'
   ·subst h'; rw [Gn _ _ _ hput,hell]
  ·intro e' he' a ha
   rcases List.mem_or_eq_of_mem_set he' with h' | h'
   ·exact hb1.cell e' h' a ha
   ·subst h'
    obtain ⟨j,hj⟩:=List.mem_iff_getElem?.1 ha
    rw [Ek _ _ _ hput] at hj
    split at hj
    ·exact c2 a (List.mem_of_getElem? hj)
    ·exact hb1.cell el (List.mem_of_getElem? hel) a (List.mem_of_getElem? hj)
  ·intro hpl e' he' a ha
   simp only [Bool.and_eq_true,List.all_eq_true] at hpl
   rcases List.mem_or_eq_of_mem_set he' with h' | h'
   ·exact hb1.pl hpl.1 e' h' a ha
   ·subst h'
    obtain ⟨j,hj⟩:=List.mem_iff_getElem?.1 ha
    rw [Ek _ _ _ hput] at hj
    split at hj
    ·exact hpl.2 a (List.mem_of_getElem? hj)
    ·exact hb1.pl hpl.1 el (List.mem_of_getElem? hel) a (List.mem_of_getElem? hj)
  ·intro i' e' j a hi' hj
   have hbig:base + (k * B.sz + o) + cx.cells.toList.length≤arr.toList.length:=by simp; omega
   have hread:∀ q,(arr.toList.take (base + (k * B.sz + o))++cx.cells.toList++arr.toList.drop (base + (k * B.sz + o) + cx.cells.toList.length)).toArray[q]? =
     if base + (k * B.sz + o)≤q∧q < base + (k * B.sz + o) + cx.cells.toList.length then cx.cells[q - (base + (k * B.sz + o))]? else arr[q]?:=by
    intro q
    simp only [List.getElem?_toArray,List.append_assoc]
    rw [List.getElem?_append,List.getElem?_append,List.getElem?_take,List.getElem?_drop]
    simp only [List.length_take,Array.length_toList]
    have e3:min (base + (k * B.sz + o)) arr.size = base + (k * B.sz + o):=by simp at hbig; omega
    rw [e3]
    by_cases q1:q < base + (k * B.sz + o)
    ·rw [if_pos q1,if_pos q1,if_neg (by omega)]; simp
    ·rw [if_neg q1]
     by_cases q2:q < base + (k * B.sz + o) + cx.cells.size
     ·have hc1:q - (base + (k * B.sz + o)) < cx.cells.size:=by omega
      have hc2:base + (k * B.sz + o)≤q∧q < base + (k * B.sz + o) + cx.cells.size:=by omega
      rw [if_pos hc1,if_pos hc2]; simp
     ·have hc1:¬ q - (base + (k * B.sz + o)) < cx.cells.size:=by omega
      have hc2:¬ (base + (k * B.sz + o)≤q∧q < base + (k * B.sz + o) + cx.cells.size):=by omega
      rw [if_neg hc1,if_neg hc2]
      simp only [Array.getElem?_toList]
      congr 1; omega
   rw [hread]
   by_cases ek:i' = k
   ·subst ek
    rw [List.getElem?_set_self hk] at hi'
    injection hi' with hi'; subst hi'
    rw [Ek _ _ _ hput] at hj
    split at hj
    ·rename_i hin
     obtain ⟨u,hu,hr'⟩:=c3 _ _ hj
     refine ⟨u,?_,hr'⟩
     rw [if_pos (by simp; omega)]
     have e4:base + (i' * B.sz + j) - (base + (i' * B.sz + o)) = j - o:=by omega
     rw [e4]; exact hu
    ·rename_i hout
     obtain ⟨v,hv,hr'⟩:=g3 i' el j a hel hj
     refine ⟨v,?_,hr'⟩
     rw [if_neg (by simp; omega)]; exact hv
   ·rw [List.getElem?_set_ne (fun h=>ek h.symm)] at hi'
    obtain ⟨v,hv,hr'⟩:=g3 i' e' j a hi' hj
    refine ⟨v,?_,hr'⟩
    have hjl:j < B.sz:=by rw [← hb1.len e' (List.mem_of_getElem? hi')]; exact (List.getElem?_eq_some_iff.1 hj).1
    have hne:¬ (base + (k * B.sz + o)≤base + (i' * B.sz + j)∧base + (i' * B.sz + j) < base + (k * B.sz + o) + cx.cells.toList.length):=by
     rintro ⟨q1,q2⟩
     simp at q2
     rcases Nat.lt_or_gt_of_ne ek with hlt | hgt
     ·have:=Nat.mul_le_mul_right B.sz (show i' + 1≤k by omega)
      rw [Nat.add_mul,Nat.one_mul] at this; omega
     ·have:=Nat.mul_le_mul_right B.sz (show k + 1≤i' by omega)
      rw [Nat.add_mul,Nat.one_mul] at this; omega
    rw [if_neg hne]; exact hv
 | _=>simp [stA] at h
end Go.Rf
