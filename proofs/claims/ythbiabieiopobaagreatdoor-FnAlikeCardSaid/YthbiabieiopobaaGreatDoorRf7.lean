/- Values read out of the store; what goes from frame to frame. -/
import Derived.Test.YthbiabieiopobaaGreatDoorRf6
set_option linter.unusedVariables false
set_option linter.unusedSimpArgs false
namespace Go.Rf
open Go
variable {g0:Nat} {X:Nat→Prop} {m:Bd} {A:Nat→Prop} {S:St} {w:World} {P:Program}
theorem CJ (cs:List AV):Br.rfreeL cs = cs.all Br:=by
 induction cs with
 | nil=>rfl
 | cons c r ih=>simp [Br.rfreeL,ih]
theorem Nq (cs:List AV):lt.ltL cs = cs.any lt:=by
 induction cs with
 | nil=>rfl
 | cons c r ih=>simp [lt.ltL,ih]
theorem Ey (cs:List AV):Bi.scrubL cs = cs.map Bi:=by
 induction cs with
 | nil=>rfl
 | cons c r ih=>simp [Bi.scrubL,ih]
theorem MV (d:Nat) (cs:List AV):shv.shL d cs = cs.map (shv d):=by
 induction cs with
 | nil=>rfl
 | cons c r ih=>simp [shv.shL,ih]
theorem VR.free {X2:Nat→Prop} {m2:Bd} {A2:Nat→Prop} {S2:St} (hA:∀ c,A c→A2 c) (hX:∀ c,A c→¬ X c→¬ X2 c) {a:AV} {v:Value} (h:VR X m A S w a v) (hf:Br a = true) :
  VR X2 m2 A2 S2 w a v:=by
 induction h with
 | int k n=>exact .int k n
 | bool b=>exact .bool b
 | str s=>exact .str s
 | nilp=>exact .nilp
 | nilf=>exact .nilf
 | nili=>exact .nili
 | errv t v=>exact .errv t v
 | ub b=>exact .ub b
 | dead v h=>exact .dead v h
 | non v=>exact .non v
 | agg cs vs hl hc _ ih=>
  simp only [Br,CJ,List.all_eq_true] at hf
  exact .agg cs vs hl hc (fun i a v hi hv=>ih i a v hi hv (hf a (List.mem_of_getElem? hi)))
 | tup cs vs hl _ ih=>
  simp only [Br,CJ,List.all_eq_true] at hf
  exact .tup cs vs hl (fun i a v hi hv=>ih i a v hi hv (hf a (List.mem_of_getElem? hi)))
 | fn f cs vs hl _ ih=>
  simp only [Br,CJ,List.all_eq_true] at hf
  exact .fn f cs vs hl (fun i a v hi hv=>ih i a v hi hv (hf a (List.mem_of_getElem? hi)))
 | rsl0 l fl a cap h=>exact .rsl0 l fl a cap h
 | rsl l fl es blk off s cap val hA' hX' hfl hle hlen hce hc _ ih=>
  refine .rsl l fl es blk off s cap val (hA blk hA') (fun h=>hX blk hA' (hX' h)) hfl hle hlen hce hc (fun i e j a hi hj=>ih i e j a hi hj ?_)
  have:=hce i e hi a (List.mem_of_getElem? hj)
  simp [CO] at this; exact this.2.1
 | rp l cs blk off val hA' hX' hce hc _ ih=>
  refine .rp l cs blk off val (hA blk hA') (fun h=>hX blk hA' (hX' h)) hce hc (fun j a hj=>ih j a hj ?_)
  have:=hce a (List.mem_of_getElem? hj)
  simp [CO] at this; exact this.2.1
 | bp=>simp [Br] at hf
 | bsl=>simp [Br] at hf
theorem VR.own {X2:Nat→Prop} {m2:Bd} {A2:Nat→Prop} {S2:St} (hA:∀ c,A c→¬ X c→A2 c∧¬ X2 c) {a:AV} {v:Value} (h:VR X m A S w a v) (hf:Br a = true) (hl:lt a = false) :
  VR X2 m2 A2 S2 w a v:=by
 induction h with
 | int k n=>exact .int k n
 | bool b=>exact .bool b
 | str s=>exact .str s
 | nilp=>exact .nilp
 | nilf=>exact .nilf
 | nili=>exact .nili
 | errv t v=>exact .errv t v
 | ub b=>exact .ub b
 | dead v h=>exact .dead v h
 | non v=>exact .non v
 | agg cs vs hl' hc _ ih=>
  simp only [Br,CJ,List.all_eq_true] at hf
  simp only [lt,Nq,List.any_eq_false] at hl
  exact .agg cs vs hl' hc (fun i a v hi hv=>ih i a v hi hv (hf a (List.mem_of_getElem? hi)) (by simpa using hl a (List.mem_of_getElem? hi)))
 | tup cs vs hl' _ ih=>
  simp only [Br,CJ,List.all_eq_true] at hf
  simp only [lt,Nq,List.any_eq_false] at hl
  exact .tup cs vs hl' (fun i a v hi hv=>ih i a v hi hv (hf a (List.mem_of_getElem? hi)) (by simpa using hl a (List.mem_of_getElem? hi)))
 | fn f cs vs hl' _ ih=>
  simp only [Br,CJ,List.all_eq_true] at hf
  simp only [lt,Nq,List.any_eq_false] at hl
  exact .fn f cs vs hl' (fun i a v hi hv=>ih i a v hi hv (hf a (List.mem_of_getElem? hi)) (by simpa using hl a (List.mem_of_getElem? hi)))
 | rsl0 l fl a cap h=>exact .rsl0 l fl a cap h
 | rsl l fl es blk off s cap val hA' hX' hfl hle hlen hce hc _ ih=>
  simp only [lt] at hl; subst hl
  refine .rsl false fl es blk off s cap val (hA blk hA' (hX' rfl)).1 (fun _=>(hA blk hA' (hX' rfl)).2) hfl hle hlen hce hc (fun i e j a hi hj=>?_)
  have:=hce i e hi a (List.mem_of_getElem? hj)
  simp [CO] at this
  exact ih i e j a hi hj this.2.1 this.2.2
 | rp l cs blk off val hA' hX' hce hc _ ih=>
  simp only [lt] at hl; subst hl
  refine .rp false cs blk off val (hA blk hA' (hX' rfl)).1 (fun _=>(hA blk hA' (hX' rfl)).2) hce hc (fun j a hj=>?_)
  have:=hce a (List.mem_of_getElem? hj)
  simp [CO] at this
  exact ih j a hj this.2.1 this.2.2
 | bp=>simp [Br] at hf
 | bsl=>simp [Br] at hf
theorem G1 {a:AV} (h:AC a = true) (l:Bool):CO l a = true:=by cases a <;> simp [AC] at h <;> simp [CO,Bv,Br,lt]
theorem O6 (brw:Bool) (S:St) (k:Nat) (a:AV) (h:Bv a = true):Bv (frz brw S k a) = true:=by
 cases k with
 | zero=>simp only [frz]; rw [if_pos h]; rfl
 | succ k=>
  cases a <;> simp [Bv] at h <;> simp only [frz] <;> (repeat' split) <;> rfl
theorem GP (brw:Bool) (S:St):∀ (k:Nat) (a:AV),Br (frz brw S k a) = true
 | 0,a=>by simp only [frz]; split <;> rfl
 | k + 1,a=>by
  have ih:=GP brw S k
  cases a <;> simp only [frz] <;> (repeat' split) <;> first | rfl | (simp [Br,CJ,ih]; done)
theorem KQ (hr:Rel g0 X m A S w) {X2:Nat→Prop} {m2:Bd} {A2:Nat→Prop} {S2:St} (brw:Bool) (hA:∀ c,A c→A2 c) (hB:∀ c,rng m c→A2 c)
  (hX:∀ c,A c→¬ X c→¬ X2 c) (hY:brw = false→∀ c,rng m c→¬ X2 c) :
  ∀ (k:Nat) (a:AV) (v:Value),VR X m A S w a v→VR X2 m2 A2 S2 w (frz brw S k a) v
 | 0,a,v,h=>by
  simp only [frz]
  split
  ·rename_i hc; exact .dead _ (h.oneCell hc)
  ·exact .non _
 | k + 1,a,v,h=>by
  have ih:=KQ hr (m2:=m2) (S2:=S2) brw hA hB hX hY k
  have hcells:∀ cs:List AV,(∀ a∈cs,Bv a = true)→∀ a∈cs.map (frz brw S k),CO (brw || (cs.map (frz brw S k)).any lt) a = true:=by
   intro cs hc a ha
   obtain ⟨b,hb,rfl⟩:=List.mem_map.1 ha
   have h1:=O6 brw S k b (hc b hb)
   have h2:=GP brw S k b
   simp only [CO,h1,h2,Bool.true_and,Bool.or_eq_true,Bool.not_eq_true']
   cases hl:lt (frz brw S k b) with
   | false=>exact .inr rfl
   | true=>exact .inl (.inr (List.any_eq_true.2 ⟨_,ha,hl⟩))
  cases h with
  | int k n=>exact .int k n
  | bool b=>exact .bool b
  | str s=>exact .str s
  | nilp=>exact .nilp
  | nilf=>exact .nilf
  | nili=>exact .nili
  | errv t v=>exact .errv t v
  | ub b=>exact .ub b
  | dead v h=>exact .dead v h
  | non v=>exact .non v
  | agg cs vs hl hc hall=>
   refine .agg _ _ (by simpa using hl) (fun a ha=>?_) (fun i a v hi hv=>?_)
   ·obtain ⟨b,hb,rfl⟩:=List.mem_map.1 ha
    exact O6 _ _ _ _ (hc b hb)
   ·simp only [List.getElem?_map,Option.map_eq_some_iff] at hi
    obtain ⟨b,hb,rfl⟩:=hi
    exact ih b v (hall i b v hb hv)
  | tup cs vs hl hall=>
   refine .tup _ _ (by simpa using hl) (fun i a v hi hv=>?_)
   simp only [List.getElem?_map,Option.map_eq_some_iff] at hi
   obtain ⟨b,hb,rfl⟩:=hi
   exact ih b v (hall i b v hb hv)
  | fn f cs vs hl hall=>
   refine .fn f _ _ (by simpa using hl) (fun i a v hi hv=>?_)
   simp only [List.getElem?_map,Option.map_eq_some_iff] at hi
   obtain ⟨b,hb,rfl⟩:=hi
   exact ih b v (hall i b v hb hv)
  | rsl0 l fl a cap h=>exact .rsl0 l fl a cap h
  | rsl l fl es blk off s cap val hA' hX' hfl hle hlen hce hc hv=>
   exact VR.free hA hX (.rsl l fl es blk off s cap val hA' hX' hfl hle hlen hce hc hv) rfl
  | rp l cs blk off val hA' hX' hce hc hv=>exact VR.free hA hX (.rp l cs blk off val hA' hX' hce hc hv) rfl
  | bp b i o n L ad B hB' hL hb=>
   simp only [frz,hB']
   split
   ·rename_i e
    split
    ·rename_i el hel
     have hVR:VR X m A S w (.bp b i o n L) (.pointer (some ad)):=.bp b i o n L ad B hB' hL hb
     obtain ⟨blk,base,h1,h2,h3,h4⟩:=hb e
     have hcs:BY S (.bp b i o n L) = some ((el.drop o).take n):=by simp [BY,hB',e,hel]
     obtain ⟨blk',off',val,e1,g1,g2,g3⟩:=FI hr hVR hcs
     rw [h4] at e1
     injection e1 with e1; injection e1 with e1; injection e1 with e1 e2; subst e1; subst e2; subst h4
     obtain ⟨B1,hB1,hb1⟩:=hr.box b blk base h1
     rw [hB'] at hB1; injection hB1 with hB1; subst hB1
     split
     ·rename_i hpl
      refine .rp _ _ _ _ val (hB blk ⟨b,base,h1⟩) (fun hf=>hY hf blk ⟨b,base,h1⟩) (fun a ha=>G1 (hb1.pl hpl el (List.mem_of_getElem? hel) a (List.mem_drop_take ha)) _) g1 (fun j a ha=>?_)
      exact (g2 j a ha).of_plain (hb1.pl hpl el (List.mem_of_getElem? hel) a (List.mem_drop_take (List.mem_of_getElem? ha)))
     ·refine .rp _ _ _ _ val (hB blk ⟨b,base,h1⟩) (fun hf=>?_) (hcells _ g3) (fun j hj=>g1 j (by simpa using hj)) (fun j a ha=>?_)
      ·simp only [Bool.or_eq_false_iff] at hf
       exact hY hf.1 blk ⟨b,base,h1⟩
      ·simp only [List.getElem?_map,Option.map_eq_some_iff] at ha
       obtain ⟨c,hc,rfl⟩:=ha
       exact ih c _ (g2 j c hc)
    ·exact .dead _ rfl
   ·exact .dead _ rfl
  | bsl b i n L fl ad cap B hB' hL hb=>
   simp only [frz,hB']
   split
   ·rename_i e
    obtain ⟨blk,base,h1,h2,had,h4,h5,h6,h7⟩:=hb e
    by_cases hc0:cap = 0
    ·have hn0:n = 0:=by omega
     subst hn0; subst hc0
     simp only [List.take_zero,List.map_nil]
     split <;> exact .rsl0 _ _ _ _ (fun _=>rfl)
    have had:=had hc0
    subst had
    obtain ⟨B1,hB1,hb1⟩:=hr.box b blk base h1
    rw [hB'] at hB1; injection hB1 with hB1; subst hB1
    obtain ⟨arr,ty,g1,g2,g3⟩:=hb1.blk
    have hn:((B.es.drop i).take n).length = n:=by simp; omega
    have hget:∀ (i':Nat) (e':List AV),((B.es.drop i).take n)[i']? = some e'→B.es[i + i']? = some e'∧i' < n:=by
     intro i' e' hi'
     rw [List.getElem?_take,List.getElem?_drop] at hi'
     split at hi'
     ·rename_i hlt; exact ⟨hi',hlt⟩
     ·cases hi'
    have hcell:∀ i' j,i' < n→j < B.sz→∃ v,w.cell? ⟨blk,base + i * B.sz + (i' * B.sz + j),none⟩ = some v∧∀ e' a,((B.es.drop i).take n)[i']? = some e'→e'[j]? = some a→VR X m A S w a v:=by
     intro i' j hi' hj
     have hlt:i + i' < B.es.length:=by omega
     have he':B.es[i + i']? = some B.es[i + i']:=List.getElem?_eq_getElem hlt
     have hjl:j < B.es[i + i'].length:=by rw [hb1.len _ (List.getElem_mem hlt)]; exact hj
     obtain ⟨v,q1,q2⟩:=g3 (i + i') _ j _ he' (List.getElem?_eq_getElem hjl)
     refine ⟨v,?_,fun e' a hh ha=>?_⟩
     ·rw [cell_of_row w blk _ arr ty (0,0) g1,show base + i * B.sz + (i' * B.sz + j) = base + ((i + i') * B.sz + j) by rw [Nat.add_mul]; omega]
      exact q1
     ·have:=(hget i' e' hh).1
      rw [he'] at this; injection this with this; subst this
      rw [List.getElem?_eq_getElem hjl] at ha; injection ha with ha; subst ha
      exact q2
    have hval:∃ val:Nat→Nat→Value,(∀ i' j,i' < n→j < B.sz→w.cell? ⟨blk,base + i * B.sz + (i' * B.sz + j),none⟩ = some (val i' j)) ∧
      ∀ i' e' j a,((B.es.drop i).take n)[i']? = some e'→e'[j]? = some a→VR X m A S w a (val i' j):=by
     refine ⟨fun i' j=>(w.cell? ⟨blk,base + i * B.sz + (i' * B.sz + j),none⟩).getD default,fun i' j hi' hj=>?_,fun i' e' j a hh ha=>?_⟩
     ·obtain ⟨v,q1,_⟩:=hcell i' j hi' hj
      simp [q1]
     ·have hi':=(hget i' e' hh).2
      have hj:j < B.sz:=by rw [← hb1.len e' (List.mem_of_getElem? (hget i' e' hh).1)]; exact (List.getElem?_eq_some_iff.1 ha).1
      obtain ⟨v,q1,q2⟩:=hcell i' j hi' hj
      simpa [q1] using q2 e' a hh ha
    obtain ⟨val,v1,v2⟩:=hval
    have hmem:∀ i' e',((B.es.drop i).take n)[i']? = some e'→e'∈B.es:=fun i' e' hh=>List.mem_of_getElem? (hget i' e' hh).1
    split
    ·rename_i hpl
     have:=VR.rsl (X:=X2) (m:=m2) (A:=A2) (S:=S2) (w:=w) brw fl ((B.es.drop i).take n) blk (base + i * B.sz) B.sz cap val (hB blk ⟨b,base,h1⟩) (fun hf=>hY hf blk ⟨b,base,h1⟩)
      (fun hf=>by rw [hn]; exact h5 hf) (by rw [hn]; exact h4) (fun i' e' hh=>hb1.len e' (hmem i' e' hh)) (fun i' e' hh a ha=>G1 (hb1.pl hpl e' (hmem i' e' hh) a ha) _)
      (fun i' j hi' hj=>v1 i' j (by rw [hn] at hi'; exact hi') hj) (fun i' e' j a hh ha=>(v2 i' e' j a hh ha).of_plain (hb1.pl hpl e' (hmem i' e' hh) a (List.mem_of_getElem? ha)))
     rw [hn] at this; exact this
    ·have hn':(((B.es.drop i).take n).map (·.map (frz brw S k))).length = n:=by rw [List.length_map,hn]
     have:=VR.rsl (X:=X2) (m:=m2) (A:=A2) (S:=S2) (w:=w) (brw || (((B.es.drop i).take n).map (·.map (frz brw S k))).any (·.any lt)) fl (((B.es.drop i).take n).map (·.map (frz brw S k))) blk (base + i * B.sz) B.sz cap val
      (hB blk ⟨b,base,h1⟩) (fun hf=>by simp only [Bool.or_eq_false_iff] at hf; exact hY hf.1 blk ⟨b,base,h1⟩)
      (fun hf=>by rw [hn']; exact h5 hf) (by rw [hn']; exact h4)
      (fun i' e' hh=>by
       simp only [List.getElem?_map,Option.map_eq_some_iff] at hh
       obtain ⟨e'',h'',rfl⟩:=hh
       rw [List.length_map]; exact hb1.len e'' (hmem i' e'' h''))
      (fun i' e' hh a ha=>by
       have hh0:=hh
       simp only [List.getElem?_map,Option.map_eq_some_iff] at hh
       obtain ⟨e'',h'',rfl⟩:=hh
       have:=hcells e'' (hb1.cell e'' (hmem i' e'' h'')) a ha
       simp only [CO,Bool.and_eq_true,Bool.or_eq_true] at this ⊢
       refine ⟨this.1,this.2.1,?_⟩
       rcases this.2.2 with (h | h) | h
       ·exact .inl (.inl h)
       ·exact .inl (.inr (List.any_eq_true.2 ⟨_,List.mem_of_getElem? hh0,h⟩))
       ·exact .inr h)
      (fun i' j hi' hj=>v1 i' j (by rw [hn'] at hi'; exact hi') hj)
      (fun i' e' j a hh ha=>by
       simp only [List.getElem?_map,Option.map_eq_some_iff] at hh
       obtain ⟨e'',h'',rfl⟩:=hh
       simp only [List.getElem?_map,Option.map_eq_some_iff] at ha
       obtain ⟨c,hc,rfl⟩:=ha
       exact ih c _ (v2 i' e'' j c h'' hc))
     rw [hn'] at this; exact this
   ·exact .dead _ rfl
theorem JR (l:Bool) (k:Nat) (a:AV) (h:Bv a = true):Bv (nrm l k a) = true:=by
 cases k with
 | zero=>exact h
 | succ k=>cases a <;> simp [Bv] at h <;> simp only [nrm] <;> rfl
theorem JE {f:AV→AV} (hf:∀ a,Br a = true→Br (f a) = true):∀ cs:List AV,Br.rfreeL cs = true→Br.rfreeL (cs.map f) = true
 | [],_=>rfl
 | c::r,h=>by
  simp only [Br.rfreeL,Bool.and_eq_true] at h
  simp only [List.map_cons,Br.rfreeL,Bool.and_eq_true]
  exact ⟨hf c h.1,JE hf r h.2⟩
theorem Md (l:Bool):∀ (k:Nat) (a:AV),Br a = true→Br (nrm l k a) = true
 | 0,a,h=>h
 | k + 1,a,h=>by
  have ih:=Md l k
  cases a <;> simp only [nrm] <;> first | exact h | rfl | (simp only [Br] at h ⊢; exact JE ih _ h)
theorem RD {f:AV→AV}:∀ cs:List AV,(∀ a∈cs,lt (f a) = false)→lt.ltL (cs.map f) = false
 | [],_=>rfl
 | c::r,h=>by
  simp only [List.map_cons,lt.ltL,Bool.or_eq_false_iff]
  exact ⟨h c (by simp),RD r fun a ha=>h a (by simp [ha])⟩
theorem NI {k:Nat} {cs:List AV} (h:cs.any (ltD k) = false):∀ a∈cs,ltD k a = false:=fun a ha=>by
 have:=List.any_eq_false.1 h a ha
 simpa using this
theorem VE:∀ (k:Nat) (a:AV),ltD k a = false→lt (nrm false k a) = false
 | 0,a,h=>by simp [ltD] at h
 | k + 1,a,h=>by
  cases a <;> simp only [nrm] <;> first
   | rfl
   | (simp only [ltD] at h; simp only [lt]; exact RD _ fun a ha=>VE k a (NI h a ha))
theorem PQ {X:Nat→Prop} {m:Bd} {A:Nat→Prop} {S:St} {w:World} (l:Bool):∀ (k:Nat) (a:AV) (v:Value),(l = true∨ltD k a = false)→VR X m A S w a v→VR X m A S w (nrm l k a) v
 | 0,a,v,_,h=>h
 | k + 1,a,v,hl,h=>by
  have ih:=PQ (X:=X) (m:=m) (A:=A) (S:=S) (w:=w) l k
  have sub:∀ cs:List AV,(l = true∨cs.any (ltD k) = false)→∀ a∈cs,l = true∨ltD k a = false:=fun cs h a ha=>h.imp id fun h=>NI h a ha
  have hin:∀ (l0:Bool) (e:List AV),(l = true∨e.any (ltD k) = false)→(∀ a∈e,CO l0 a = true)→∀ a∈e.map (nrm l k),CO l a = true:=by
   intro l0 e he hi a ha
   obtain ⟨b,hb,rfl⟩:=List.mem_map.1 ha
   have h1:=hi b hb
   simp only [CO,Bool.and_eq_true] at h1 ⊢
   refine ⟨JR l k b h1.1,Md l k b h1.2.1,?_⟩
   cases l with
   | true=>rfl
   | false=>
    rcases sub e he b hb with h | h
    ·cases h
    ·simp [VE k b h]
  cases h with
  | int k n=>exact .int k n
  | bool b=>exact .bool b
  | str s=>exact .str s
  | nilp=>exact .nilp
  | nilf=>exact .nilf
  | nili=>exact .nili
  | errv t v=>exact .errv t v
  | ub b=>exact .ub b
  | dead v h=>exact .dead v h
  | non v=>exact .non v
  | bp b i o n L ad B h1 h2 h3=>exact .bp b i o n L ad B h1 h2 h3
  | bsl b i n L fl ad cap B h1 h2 h3=>exact .bsl b i n L fl ad cap B h1 h2 h3
  | agg cs vs h1 h2 h3=>
   refine .agg _ _ (by simpa using h1) (fun a ha=>?_) (fun i a v hi hv=>?_)
   ·obtain ⟨b,hb,rfl⟩:=List.mem_map.1 ha
    exact JR _ _ _ (h2 b hb)
   ·simp only [List.getElem?_map,Option.map_eq_some_iff] at hi
    obtain ⟨b,hb,rfl⟩:=hi
    exact ih b v (sub cs hl b (List.mem_of_getElem? hb)) (h3 i b v hb hv)
  | tup cs vs h1 h3=>
   refine .tup _ _ (by simpa using h1) (fun i a v hi hv=>?_)
   simp only [List.getElem?_map,Option.map_eq_some_iff] at hi
   obtain ⟨b,hb,rfl⟩:=hi
   exact ih b v (sub cs hl b (List.mem_of_getElem? hb)) (h3 i b v hb hv)
  | fn f cs vs h1 h3=>
   refine .fn f _ _ (by simpa using h1) (fun i a v hi hv=>?_)
   simp only [List.getElem?_map,Option.map_eq_some_iff] at hi
   obtain ⟨b,hb,rfl⟩:=hi
   exact ih b v (sub cs hl b (List.mem_of_getElem? hb)) (h3 i b v hb hv)
  | rsl0 l0 fl a cap h=>exact .rsl0 l false a cap (by simp)
  | rsl l0 fl es blk off s cap val hA hX hfl hle hlen hce hc hv=>
   have hl':l = true∨(l0 = false∧es.any (·.any (ltD k)) = false):=hl.imp id fun h=>by simpa only [ltD,Bool.or_eq_false_iff] using h
   have he:∀ e∈es,l = true∨e.any (ltD k) = false:=fun e he=>hl'.imp id fun h=>by
    have:=List.any_eq_false.1 h.2 e he
    simpa using this
   have hn:(es.map (·.map (nrm l k))).length = es.length:=by simp
   have:=VR.rsl (X:=X) (m:=m) (A:=A) (S:=S) (w:=w) l false (es.map (·.map (nrm l k))) blk off s cap val hA (fun h=>hX (hl'.elim (fun q=>by rw [h] at q; cases q) (·.1))) (by simp) (by rw [hn]; exact hle)
    (fun i e hi=>by
     simp only [List.getElem?_map,Option.map_eq_some_iff] at hi
     obtain ⟨e',he',rfl⟩:=hi
     rw [List.length_map]; exact hlen i e' he')
    (fun i e hi=>by
     simp only [List.getElem?_map,Option.map_eq_some_iff] at hi
     obtain ⟨e',he',rfl⟩:=hi
     exact hin l0 e' (he e' (List.mem_of_getElem? he')) (hce i e' he'))
    (fun i j hi hj=>hc i j (by rw [hn] at hi; exact hi) hj)
    (fun i e j a hi hj=>by
     simp only [List.getElem?_map,Option.map_eq_some_iff] at hi
     obtain ⟨e',he',rfl⟩:=hi
     simp only [List.getElem?_map,Option.map_eq_some_iff] at hj
     obtain ⟨a',ha',rfl⟩:=hj
     exact ih a' _ (sub e' (he e' (List.mem_of_getElem? he')) a' (List.mem_of_getElem? ha')) (hv i e' j a' he' ha'))
   rw [hn] at this
   exact this
  | rp l0 cs blk off val hA hX hce hc hv=>
   have hl':l = true∨(l0 = false∧cs.any (ltD k) = false):=hl.imp id fun h=>by simpa only [ltD,Bool.or_eq_false_iff] using h
   exact .rp l _ blk off val hA (fun h=>hX (hl'.elim (fun q=>by rw [h] at q; cases q) (·.1))) (hin l0 cs (hl'.imp id (·.2)) hce) (fun j hj=>hc j (by simpa using hj))
    (fun j a ha=>by
     simp only [List.getElem?_map,Option.map_eq_some_iff] at ha
     obtain ⟨b,hb,rfl⟩:=ha
     exact ih b _ (sub cs (hl'.imp id (·.2)) b (List.mem_of_getElem? hb)) (hv j b hb))
theorem QY {X:Nat→Prop} {m:Bd} {A:Nat→Prop} {S:St} {w:World} {a:AV} {v:Value} (h:VR X m A S w a v):VR X m A S w (nz a) v:=
 PQ _ 8 a v (by cases ltD 8 a; exact .inr rfl; exact .inl rfl) h
end Go.Rf
