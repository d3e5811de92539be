/- Calls: borrowed arguments, results handed over. -/
import Derived.Test.YthbiabieiopobaaGreatDoorRf11
import Derived.Shelf.Abstract
set_option linter.unusedVariables false
set_option linter.unusedSimpArgs false
namespace Go.Rf
open Go
variable {g0:Nat} {X:Nat→Prop} {m:Bd} {A:Nat→Prop} {S:St} {w:World} {P:Program}
theorem Hl (a:AV) (h:Bv a = true):Bv (Bi a) = true:=by
 cases a <;> simp [Bv] at h <;> simp only [Bi] <;> (repeat' split) <;> rfl
theorem VR.scrubbed {X2:Nat→Prop} {m2:Bd} {A2:Nat→Prop} {S2:St} (hA:∀ c,A c→¬ X c→A2 c∧¬ X2 c) {a:AV} {v:Value} (h:VR X m A S w a v) (hf:Br a = true) :
  VR X2 m2 A2 S2 w (Bi a) v:=by
 induction h with
 | int k n=>exact .int k n
 | bool b=>exact .bool b
 | str s=>exact .str s
 | nilp=>exact .nilp
 | nilf=>exact .nilf
 | nili=>exact .nili
 | errv t v=>exact .errv t v
 | ub b=>exact .ub b
 | dead v h=>exact .dead v h
 | non v=>exact .non v
 | agg cs vs hl hc _ ih=>
  simp only [Br,CJ,List.all_eq_true] at hf
  simp only [Bi,Ey]
  refine .agg _ _ (by simpa using hl) (fun a ha=>?_) (fun i a v hi hv=>?_)
  ·obtain ⟨b,hb,rfl⟩:=List.mem_map.1 ha
   exact Hl b (hc b hb)
  ·simp only [List.getElem?_map,Option.map_eq_some_iff] at hi
   obtain ⟨b,hb,rfl⟩:=hi
   exact ih i b v hb hv (hf b (List.mem_of_getElem? hb))
 | tup cs vs hl _ ih=>
  simp only [Br,CJ,List.all_eq_true] at hf
  simp only [Bi,Ey]
  refine .tup _ _ (by simpa using hl) (fun i a v hi hv=>?_)
  simp only [List.getElem?_map,Option.map_eq_some_iff] at hi
  obtain ⟨b,hb,rfl⟩:=hi
  exact ih i b v hb hv (hf b (List.mem_of_getElem? hb))
 | fn f cs vs hl _ ih=>
  simp only [Br,CJ,List.all_eq_true] at hf
  simp only [Bi,Ey]
  refine .fn f _ _ (by simpa using hl) (fun i a v hi hv=>?_)
  simp only [List.getElem?_map,Option.map_eq_some_iff] at hi
  obtain ⟨b,hb,rfl⟩:=hi
  exact ih i b v hb hv (hf b (List.mem_of_getElem? hb))
 | rsl0 l fl a cap h=>
  simp only [Bi]
  split
  ·exact .dead _ rfl
  ·exact .rsl0 l fl a cap h
 | rsl l fl es blk off s cap val hA' hX' hfl hle hlen hce hc hv ih=>
  simp only [Bi]
  split
  ·exact .dead _ rfl
  ·rename_i hl
   exact VR.own hA (.rsl l fl es blk off s cap val hA' hX' hfl hle hlen hce hc hv) rfl (by simpa [lt] using hl)
 | rp l cs blk off val hA' hX' hce hc hv ih=>
  simp only [Bi]
  split
  ·exact .dead _ rfl
  ·rename_i hl
   exact VR.own hA (.rp l cs blk off val hA' hX' hce hc hv) rfl (by simpa [lt] using hl)
 | bp=>simp [Br] at hf
 | bsl=>simp [Br] at hf
theorem NQ (d:Nat) (a:AV) (h:Bv a = true):Bv (shv d a) = true:=by
 cases a <;> simp [Bv] at h <;> rfl
theorem VR.installed {X2:Nat→Prop} {m2:Bd} {A2:Nat→Prop} {S2:St} (hA:∀ c,A c→¬ X c→A2 c∧¬ X2 c) (hm:∀ b blk base,m b = some (blk,base)→m2 (S2.length + b) = some (blk,base))
  (d:Nat) (hd:d = S2.length) {a:AV} {v:Value} (h:VR X m A S w a v):VR X2 m2 A2 (S2++S.map (shB d)) w (shv d (Bi a)) v:=by
 have hget:∀ b B,S[b]? = some B→(S2++S.map (shB d))[b + d]? = some (shB d B)∧(shB d B).es.length = B.es.length∧(shB d B).sz = B.sz:=by
  intro b B hB
  refine ⟨?_,?_,?_⟩
  ·rw [hd,List.getElem?_append_right (by omega),Nat.add_sub_cancel,List.getElem?_map,← hd,hB]; rfl
  ·unfold shB; split <;> simp
  ·unfold shB; split <;> rfl
 induction h with
 | int k n=>exact .int k n
 | bool b=>exact .bool b
 | str s=>exact .str s
 | nilp=>exact .nilp
 | nilf=>exact .nilf
 | nili=>exact .nili
 | errv t v=>exact .errv t v
 | ub b=>exact .ub b
 | dead v h=>exact .dead v h
 | non v=>exact .non v
 | agg cs vs hl hc _ ih=>
  simp only [Bi,Ey,shv,MV,List.map_map]
  refine .agg _ _ (by simpa using hl) (fun a ha=>?_) (fun i a v hi hv=>?_)
  ·obtain ⟨b,hb,rfl⟩:=List.mem_map.1 ha
   exact NQ _ _ (Hl b (hc b hb))
  ·simp only [List.getElem?_map,Option.map_eq_some_iff] at hi
   obtain ⟨b,hb,rfl⟩:=hi
   exact ih i b v hb hv
 | tup cs vs hl _ ih=>
  simp only [Bi,Ey,shv,MV,List.map_map]
  refine .tup _ _ (by simpa using hl) (fun i a v hi hv=>?_)
  simp only [List.getElem?_map,Option.map_eq_some_iff] at hi
  obtain ⟨b,hb,rfl⟩:=hi
  exact ih i b v hb hv
 | fn f cs vs hl _ ih=>
  simp only [Bi,Ey,shv,MV,List.map_map]
  refine .fn f _ _ (by simpa using hl) (fun i a v hi hv=>?_)
  simp only [List.getElem?_map,Option.map_eq_some_iff] at hi
  obtain ⟨b,hb,rfl⟩:=hi
  exact ih i b v hb hv
 | rsl0 l fl a cap h=>
  simp only [Bi]
  split
  ·exact .dead _ rfl
  ·exact .rsl0 l fl a cap h
 | rsl l fl es blk off s cap val hA' hX' hfl hle hlen hce hc hv ih=>
  simp only [Bi]
  split
  ·exact .dead _ rfl
  ·rename_i hl
   have hl':lt (AV.rsl l fl es) = false:=by simpa [lt] using hl
   have:=VR.own (m2:=m2) (S2:=S2++S.map (shB d)) hA (.rsl l fl es blk off s cap val hA' hX' hfl hle hlen hce hc hv) rfl hl'
   exact this
 | rp l cs blk off val hA' hX' hce hc hv ih=>
  simp only [Bi]
  split
  ·exact .dead _ rfl
  ·rename_i hl
   have hl':lt (AV.rp l cs) = false:=by simpa [lt] using hl
   have:=VR.own (m2:=m2) (S2:=S2++S.map (shB d)) hA (.rp l cs blk off val hA' hX' hce hc hv) rfl hl'
   exact this
 | bp b i o n L ad B hB hL hb=>
  obtain ⟨e1,e2,e3⟩:=hget b B hB
  refine .bp _ _ _ _ _ _ _ e1 (by omega) (fun e=>?_)
  obtain ⟨blk,base,h1,h2,h3,h4⟩:=hb (by omega)
  exact ⟨blk,base,by rw [hd,Nat.add_comm]; exact hm b blk base h1,h2,by rw [e3]; exact h3,by rw [e3]; exact h4⟩
 | bsl b i n L fl ad cap B hB hL hb=>
  obtain ⟨e1,e2,e3⟩:=hget b B hB
  refine .bsl _ _ _ _ _ _ _ _ e1 (by omega) (fun e=>?_)
  obtain ⟨blk,base,h1,h2,h3,h4,h5,h6,h7⟩:=hb (by omega)
  exact ⟨blk,base,by rw [hd,Nat.add_comm]; exact hm b blk base h1,h2,by rw [e3]; exact h3,h4,h5,h6,by rw [e3]; exact h7⟩
def ED (g0:Nat) (X:Nat→Prop) (m:Bd) (A:Nat→Prop) (S:St) (w:World) (v:AV) (S1:St):Ending→World→Prop:=
 fun e w'=>∃ cv m' A',e = .returned cv∧Rel g0 X m' A' S1 w'∧Ext m A S w m' A' S1 w'∧VR X m' A' S1 w' v cv
structure Pg (g0:Nat) (G:World→Prop):Prop where
 keep:∀ w w':World,(∀ c,c < g0→w'.heap[c]? = w.heap[c]?)→w'.os = w.os→w'.tape = w.tape→w'.output = w.output→g0≤w.heap.size→w.heap.size≤w'.heap.size→G w→G w'
theorem Pg.ext {G:World→Prop} (hG:Pg g0 G) (hr:Rel g0 X m A S w) {m':Bd} {A':Nat→Prop} {S':St} {w':World} (he:Ext m A S w m' A' S' w') (h:G w):G w':=
 hG.keep w w' (fun c hc=>he.kp.block c (Nat.lt_of_lt_of_le hc hr.glt) (fun ⟨b,o,hb⟩=>by have:=(hr.dis b c o hb).2.2.1; omega)) he.kp.os he.kp.tape he.kp.output hr.glt he.kp.size h
def Gt (P:Program) (g0:Nat) (G:World→Prop) (run:FuncId→List AV→St→Option (AV×St)):Prop:=
 ∀ (g:FuncId) (args:List AV) (S:St) (v:AV) (S1:St),run g args S = some (v,S1)→∀ (X:Nat→Prop) (m:Bd) (A:Nat→Prop) (w:World) (cargs:Array Value),
  Rel g0 X m A S w→CR X m A S w args cargs→G w→Calls P g cargs w (ED g0 X m A S w v S1)
theorem Rel.borrow (hr:Rel g0 X m A S w):Rel g0 (fun c=>X c∨rng m c) (fun _=>none) (fun c=>A c∨rng m c) [] w:=
 ⟨fun b blk base h=>(by cases h),fun b b' blk o o' h=>(by cases h),fun b blk o h=>(by cases h),fun c h=>h.elim (hr.alt c) (fun ⟨b,o,hb⟩=>(hr.dis b c o hb).2.2.2),
  fun c h=>h.elim (hr.xlt c) (fun ⟨b,o,hb⟩=>(hr.dis b c o hb).2.2.2),hr.glt⟩
theorem CR.borrow (hr:Rel g0 X m A S w) {args:List AV} {cargs:Array Value} (h:CR X m A S w args cargs) :
  CR (fun c=>X c∨rng m c) (fun _=>none) (fun c=>A c∨rng m c) [] w (args.map (fz S)) cargs:=by
 refine ⟨by simpa using h.1,fun i a v hi hv=>?_⟩
 simp only [List.getElem?_map,Option.map_eq_some_iff] at hi
 obtain ⟨b,hb,rfl⟩:=hi
 exact QY (KQ hr true (fun c h=>.inl h) (fun c h=>.inr h) (fun c hA hX h=>h.elim hX (fun ⟨b,o,hb⟩=>(hr.dis b c o hb).1 hA)) (by simp) 8 b v (h.2 i b v hb hv))
theorem X7 {C:Cfg} (hP:C.P = P) {G:World→Prop} {run:FuncId→List AV→St→Option (AV×St)} (hrun:Gt P g0 G run) (hr:Rel g0 X m A S w) (hG:G w) {f g:FuncId} {args:List AV} {cargs:Array Value}
  (ha:CR X m A S w args cargs) {v:AV} {S1:St} (h:MJ C run f g args S = some (v,S1)):(∃ fn c,P.funcs[g]? = some fn∧fn.body = some c)∧Calls P g cargs w (ED g0 X m A S w v S1):=by
 unfold MJ at h
 rw [hP] at h
 split at h <;> try (cases h; done)
 rename_i fn hfn
 split at h <;> try (cases h; done)
 rename_i hbody
 refine ⟨⟨fn,?_⟩,?_⟩
 ·cases hb:fn.body with
  | none=>rw [hb] at hbody; exact absurd rfl hbody
  | some c=>exact ⟨c,hfn,rfl⟩
 split at h
 ·-- frozen
  split at h <;> try (cases h; done)
  rename_i v0 S0 h0
  injection h with h; injection h with h1 h2; subst h1; subst h2
  refine (hrun g _ [] v0 S0 h0 _ _ _ w cargs hr.borrow (ha.borrow hr) hG).mono ?_
  rintro e w' ⟨cv,m1,A1,rfl,k1,k2,k3⟩
  have hblock:∀ c,c < w.heap.size→w'.heap[c]? = w.heap[c]?:=fun c hc=>k2.kp.block c hc (fun ⟨b,o,hb⟩=>by cases hb)
  have he:Ext m A S w m (fun c=>A c∨(w.heap.size≤c∧c < w'.heap.size)) S w':=
   ⟨⟨k2.kp.os,k2.kp.tape,k2.kp.output,k2.kp.size,fun c hc _=>hblock c hc,fun c hc=>D4 (hblock c hc)⟩,fun _ h=>.inl h,fun c h=>h.imp id (·.1),fun _ _ _ h=>.inl h,Nat.le_refl _,
    fun _ B h=>⟨B,h,rfl,Nat.le_refl _,fun _=>rfl⟩⟩
  have hr':Rel g0 X m (fun c=>A c∨(w.heap.size≤c∧c < w'.heap.size)) S w':=by
   refine ⟨fun b blk base h=>?_,hr.inj,fun b blk o h=>?_,fun c h=>?_,fun c h=>Nat.lt_of_lt_of_le (hr.xlt c h) k2.kp.size,Nat.le_trans hr.glt k2.kp.size⟩
   ·obtain ⟨B,hB,hb⟩:=hr.box b blk base h
    exact ⟨B,hB,hr.keepBox (b:=b) he (hblock blk (hr.dis b blk base h).2.2.2) hb⟩
   ·obtain ⟨q1,q2,q3,q4⟩:=hr.dis b blk o h
    exact ⟨fun h=>h.elim q1 (fun h=>by omega),q2,q3,Nat.lt_of_lt_of_le q4 k2.kp.size⟩
   ·exact h.elim (fun h=>Nat.lt_of_lt_of_le (hr.alt c h) k2.kp.size) (·.2)
  refine ⟨cv,m,_,rfl,hr',he,?_⟩
  have hf:=KQ k1 (X2:=fun c=>X c∨rng m c) (m2:=fun _=>none) (A2:=fun c=>A1 c∨rng m1 c) (S2:=[]) false (fun c h=>.inl h) (fun c h=>.inr h) (fun c _ h=>h)
   (fun _ c ⟨b,o,hb⟩=>(k1.dis b c o hb).2.1) 8 v0 cv k3
  refine QY (VR.scrubbed (fun c hc hX=>?_) hf (GP _ _ _ _))
  refine ⟨?_,fun h=>hX (.inl h)⟩
  rcases hc with hc | ⟨b,o,hb⟩
  ·rcases k2.an c hc with h | h
   ·rcases h with h | h
    ·exact .inl h
    ·exact absurd (.inr h) hX
   ·exact .inr ⟨h,k1.alt c hc⟩
  ·rcases k2.mn b c o hb with h | h
   ·cases h
   ·exact .inr ⟨h,(k1.dis b c o hb).2.2.2⟩
 ·-- handed over
  split at h <;> try (cases h; done)
  rename_i v0 S0 h0
  injection h with h; injection h with h1 h2; subst h1; subst h2
  refine (hrun g _ [] v0 S0 h0 _ _ _ w cargs hr.borrow (ha.borrow hr) hG).mono ?_
  rintro e w' ⟨cv,m1,A1,rfl,k1,k2,k3⟩
  have hblock:∀ c,c < w.heap.size→w'.heap[c]? = w.heap[c]?:=fun c hc=>k2.kp.block c hc (fun ⟨b,o,hb⟩=>by cases hb)
  have hm1:∀ b c o,m1 b = some (c,o)→w.heap.size≤c:=fun b c o hb=>by
   rcases k2.mn b c o hb with h | h
   ·cases h
   ·exact h
  let m':Bd:=fun b=>if b < S.length then m b else m1 (b - S.length)
  let A':Nat→Prop:=fun c=>A c∨(A1 c∧w.heap.size≤c)
  have hlow:∀ b p,m b = some p→m' b = some p:=fun b p h=>by simp only [m']; rw [if_pos (hr.lt h)]; exact h
  have hinst:∀ a u,VR (fun c=>X c∨rng m c) m1 A1 S0 w' a u→VR X m' A' (S++S0.map (shB S.length)) w' (shv S.length (Bi a)) u:=fun a u h=>
   VR.installed (fun c hc hX=>by
    refine ⟨?_,fun h=>hX (.inl h)⟩
    rcases k2.an c hc with h | h
    ·rcases h with h | h
     ·exact .inl h
     ·exact absurd (.inr h) hX
    ·exact .inr ⟨hc,h⟩) (fun b blk base hb=>by simp only [m']; rw [if_neg (by omega),Nat.add_sub_cancel_left]; exact hb) S.length rfl h
  have he:Ext m A S w m' A' (S++S0.map (shB S.length)) w':=by
   refine ⟨⟨k2.kp.os,k2.kp.tape,k2.kp.output,k2.kp.size,fun c hc _=>hblock c hc,fun c hc=>D4 (hblock c hc)⟩,fun _ h=>.inl h,fun c h=>h.imp id (·.2),fun b c o h=>?_,by simp,fun b B h=>?_⟩
   ·simp only [m'] at h
    split at h
    ·exact .inl h
    ·exact .inr (hm1 _ _ _ h)
   ·have hb:=(List.getElem?_eq_some_iff.1 h).1
    exact ⟨B,by rw [List.getElem?_append_left hb]; exact h,rfl,Nat.le_refl _,fun _=>(by simp only [m']; rw [if_pos hb])⟩
  refine ⟨cv,m',A',rfl,⟨fun b blk base h=>?_,fun b b' blk o o' h h'=>?_,fun b blk o h=>?_,fun c h=>?_,fun c h=>Nat.lt_of_lt_of_le (hr.xlt c h) k2.kp.size,Nat.le_trans hr.glt k2.kp.size⟩,he,hinst v0 cv k3⟩
  ·simp only [m'] at h
   split at h
   ·rename_i hb
    obtain ⟨B,hB,hbr⟩:=hr.box b blk base h
    exact ⟨B,by rw [List.getElem?_append_left hb]; exact hB,hr.keepBox (b:=b) he (hblock blk (hr.dis b blk base h).2.2.2) hbr⟩
   ·rename_i hb
    obtain ⟨B,hB,hbr⟩:=k1.box _ blk base h
    obtain ⟨arr,ty,q1,q2,q3⟩:=hbr.blk
    refine ⟨shB S.length B,by rw [List.getElem?_append_right (by omega),List.getElem?_map,hB]; rfl,?_⟩
    by_cases hpl:B.pl = true
    ·have e1:shB S.length B = B:=by unfold shB; rw [if_pos hpl]
     rw [e1]
     exact ⟨hbr.len,hbr.cell,hbr.pos,hbr.pl,arr,ty,q1,q2,fun i e j a hi hj=>by
      obtain ⟨u,u1,u2⟩:=q3 i e j a hi hj
      exact ⟨u,u1,u2.of_plain (hbr.pl hpl e (List.mem_of_getElem? hi) a (List.mem_of_getElem? hj))⟩⟩
    ·have e1:shB S.length B = { B with es:=B.es.map (·.map fun v=>shv S.length (Bi v)) }:=by unfold shB; rw [if_neg hpl]
     rw [e1]
     refine ⟨fun e he=>?_,fun e he a ha=>?_,hbr.pos,fun h=>absurd h hpl,arr,ty,q1,by simpa using q2,fun i e j a hi hj=>?_⟩
     ·obtain ⟨e',he',rfl⟩:=List.mem_map.1 he
      simpa using hbr.len e' he'
     ·obtain ⟨e',he',rfl⟩:=List.mem_map.1 he
      obtain ⟨a',ha',rfl⟩:=List.mem_map.1 ha
      exact NQ _ _ (Hl a' (hbr.cell e' he' a' ha'))
     ·simp only [List.getElem?_map,Option.map_eq_some_iff] at hi
      obtain ⟨e',he',rfl⟩:=hi
      simp only [List.getElem?_map,Option.map_eq_some_iff] at hj
      obtain ⟨a',ha',rfl⟩:=hj
      obtain ⟨u,u1,u2⟩:=q3 i e' j a' he' ha'
      exact ⟨u,u1,hinst a' u u2⟩
  ·simp only [m'] at h h'
   split at h <;> split at h'
   ·exact hr.inj b b' blk o o' h h'
   ·have:=(hr.dis b blk o h).2.2.2
    have:=hm1 _ _ _ h'
    omega
   ·have:=(hr.dis b' blk o' h').2.2.2
    have:=hm1 _ _ _ h
    omega
   ·have:=k1.inj _ _ blk o o' h h'
    omega
  ·simp only [m'] at h
   split at h
   ·obtain ⟨q1,q2,q3,q4⟩:=hr.dis b blk o h
    exact ⟨fun h=>h.elim q1 (fun h=>by omega),q2,q3,Nat.lt_of_lt_of_le q4 k2.kp.size⟩
   ·obtain ⟨q1,q2,q3,q4⟩:=k1.dis _ blk o h
    have:=hm1 _ _ _ h
    exact ⟨fun h=>h.elim (fun h=>by have:=hr.alt _ h; omega) (fun h=>q1 h.1),fun h=>q2 (.inl h),q3,q4⟩
  ·exact h.elim (fun h=>Nat.lt_of_lt_of_le (hr.alt c h) k2.kp.size) (fun h=>k1.alt c h.1)
 ·-- in place,and it adds
  split at h <;> try (cases h; done)
  rename_i v0 S0 h0
  split at h <;> try (cases h; done)
  injection h with h; injection h with h1 h2; subst h1; subst h2
  exact hrun g args S _ _ h0 X m A w cargs hr ha hG
 ·exact hrun g args S v S1 h X m A w cargs hr ha hG
end Go.Rf
