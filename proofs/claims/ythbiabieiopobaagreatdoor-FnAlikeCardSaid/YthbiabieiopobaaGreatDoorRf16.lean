/- New variables that come late; the Uu; what comes before what. -/
import Derived.Test.YthbiabieiopobaaGreatDoorRf15
set_option linter.unusedVariables false
set_option linter.unusedSimpArgs false
namespace Go.Rf
open Go
variable {g0:Nat} {X:Nat→Prop} {m:Bd} {A:Nat→Prop} {S:St} {w:World}
theorem VR.late (hr:Rel g0 X m A S w) {b:Nat} (hb:m b = none) (o:Obj) {a:AV} {v:Value} (h:VR X m A S w a v):VR X (BB m b (w.heap.size,0)) A S (w.alloc o) a v:=by
 have hcell:∀ blk q,A blk→(w.alloc o).cell? ⟨blk,q,none⟩ = w.cell? ⟨blk,q,none⟩:=fun blk q hA=>by
  simp [World.cell?,BE w o blk (hr.alt blk hA)]
 have hm:∀ b' p,m b' = some p→BB m b (w.heap.size,0) b' = some p:=fun b' p h=>by
  unfold BB
  split
  ·rename_i e; rw [e,hb] at h; cases h
  ·exact h
 induction h with
 | int k n=>exact .int k n
 | bool b=>exact .bool b
 | str s=>exact .str s
 | nilp=>exact .nilp
 | nilf=>exact .nilf
 | nili=>exact .nili
 | errv t v=>exact .errv t v
 | ub b=>exact .ub b
 | dead v h=>exact .dead v h
 | non v=>exact .non v
 | agg cs vs hl hc _ ih=>exact .agg cs vs hl hc ih
 | tup cs vs hl _ ih=>exact .tup cs vs hl ih
 | fn f cs vs hl _ ih=>exact .fn f cs vs hl ih
 | rsl0 l fl a cap h=>exact .rsl0 l fl a cap h
 | rsl l fl es blk off s cap val hA hX hfl hle hlen hce hc _ ih=>
  exact .rsl l fl es blk off s cap val hA hX hfl hle hlen hce (fun i j hi hj=>(hcell blk _ hA).trans (hc i j hi hj)) ih
 | rp l cs blk off val hA hX hce hc _ ih=>
  exact .rp l cs blk off val hA hX hce (fun j hj=>(hcell blk _ hA).trans (hc j hj)) ih
 | bp b i o n L ad B hB hL h=>
  refine .bp b i o n L ad B hB hL (fun e=>?_)
  obtain ⟨blk,base,h1,h2⟩:=h e
  exact ⟨blk,base,hm _ _ h1,h2⟩
 | bsl b i n L fl ad cap B hB hL h=>
  refine .bsl b i n L fl ad cap B hB hL (fun e=>?_)
  obtain ⟨blk,base,h1,h2,h3,h4,h5,h6,h7⟩:=h e
  exact ⟨blk,base,hm _ _ h1,h2,h3,h4,h5,h6,fun q hq=>h7 q (by rwa [D4 (BE w o blk (hr.dis b blk base h1).2.2.2)] at hq)⟩
theorem Rel.late (hr:Rel g0 X m A S w) {b:Nat} (hb:m b = none) {B:Box} (hB:S[b]? = some B) (arr:Array Value) (ty:TypeId) (hlen:∀ e∈B.es,e.length = B.sz) (hcell:∀ e∈B.es,∀ a∈e,Bv a = true) (hpos:0 < B.sz)
  (hpl:B.pl = true→∀ e∈B.es,∀ a∈e,AC a = true) (hsz:B.es.length * B.sz≤arr.size)
  (hv:∀ (i:Nat) (e:List AV) (j:Nat) (a:AV),B.es[i]? = some e→e[j]? = some a→∃ v,arr[i * B.sz + j]? = some v∧VR X m A S w a v) :
  Rel g0 X (BB m b (w.heap.size,0)) A S (w.alloc (.cells arr ty)):=by
 refine ⟨fun b1 blk base h=>?_,fun b1 b' blk o o' h h'=>?_,fun b1 blk o h=>?_,fun c h=>by have:=hr.alt c h; simp; omega,fun c h=>by have:=hr.xlt c h; simp; omega,by have:=hr.glt; simp; omega⟩
 ·unfold BB at h
  split at h
  ·rename_i hb1
   injection h with h; injection h with h1 h2; subst h1; subst h2; subst hb1
   refine ⟨B,hB,hlen,hcell,hpos,hpl,arr,ty,heap_alloc_new w _,by simpa using hsz,fun i e j a hi hj=>?_⟩
   obtain ⟨v,h1,h2⟩:=hv i e j a hi hj
   exact ⟨v,by simpa using h1,h2.late hr hb _⟩
  ·obtain ⟨B1,hB1,hb1⟩:=hr.box b1 blk base h
   obtain ⟨arr1,ty1,h1,h2,h3⟩:=hb1.blk
   refine ⟨B1,hB1,hb1.len,hb1.cell,hb1.pos,hb1.pl,arr1,ty1,by rw [BE w _ blk (hr.dis b1 blk base h).2.2.2]; exact h1,h2,fun i e j a hi hj=>?_⟩
   obtain ⟨v,hv,hr'⟩:=h3 i e j a hi hj
   exact ⟨v,hv,hr'.late hr hb _⟩
 ·unfold BB at h h'
  split at h <;> split at h'
  ·rename_i e1 e2; rw [e1,e2]
  ·injection h with h; injection h with h1 _; subst h1
   exact absurd (hr.dis b' _ _ h').2.2.2 (Nat.lt_irrefl _)
  ·injection h' with h'; injection h' with h1 _; subst h1
   exact absurd (hr.dis b1 _ _ h).2.2.2 (Nat.lt_irrefl _)
  ·exact hr.inj b1 b' blk o o' h h'
 ·unfold BB at h
  split at h
  ·injection h with h; injection h with h1 _; subst h1
   exact ⟨fun h=>absurd (hr.alt _ h) (Nat.lt_irrefl _),fun h=>absurd (hr.xlt _ h) (Nat.lt_irrefl _),hr.glt,by simp⟩
  ·obtain ⟨h1,h2,h3,h4⟩:=hr.dis b1 blk o h
   exact ⟨h1,h2,h3,by simp; omega⟩
theorem Ext.late {m0:Bd} {A0:Nat→Prop} {S0:St} {w0:World} (h:Ext m0 A0 S0 w0 m A S w) {b:Nat} (hb:S0.length≤b) (o:Obj):Ext m0 A0 S0 w0 (BB m b (w.heap.size,0)) A S (w.alloc o):=by
 refine ⟨⟨h.kp.os,h.kp.tape,h.kp.output,by have:=h.kp.size; simp; omega,fun c hc hM=>?_,fun c hc=>?_⟩,h.aa,h.an,fun b1 c o h1=>?_,h.len,fun b1 B h1=>?_⟩
 ·rw [BE w o c (Nat.lt_of_lt_of_le hc h.kp.size)]; exact h.kp.block c hc hM
 ·rw [D4 (BE w o c (Nat.lt_of_lt_of_le hc h.kp.size))]; exact h.kp.shape c hc
 ·unfold BB at h1
  split at h1
  ·injection h1 with h1; injection h1 with h1 _; subst h1; exact .inr h.kp.size
  ·exact h.mn b1 c o h1
 ·obtain ⟨B',k1,k2,k3,k4⟩:=h.st b1 B h1
  have hlt:=(List.getElem?_eq_some_iff.1 h1).1
  refine ⟨B',k1,k2,k3,fun e=>?_⟩
  have hne:b1≠b:=by omega
  simp only [BB,hne,if_false]
  exact k4 e
theorem Ext.empty (m:Bd) (A:Nat→Prop) (S E:St) (w:World):Ext m A S w m A (S++E) w:=
 ⟨Kp.refl _ _,fun _ h=>h,fun _ h=>.inl h,fun _ _ _ h=>.inl h,by simp,fun b B h=>⟨B,by rw [List.getElem?_append_left (List.getElem?_eq_some_iff.1 h).1]; exact h,rfl,Nat.le_refl _,fun _=>rfl⟩⟩
theorem Rel.empty (hr:Rel g0 X m A S w) (E:St):Rel g0 X m A (S++E) w:=
 ⟨fun b blk base h=>by
  obtain ⟨B,hB,hb⟩:=hr.box b blk base h
  exact ⟨B,by rw [List.getElem?_append_left (List.getElem?_eq_some_iff.1 hB).1]; exact hB,hr.keepBox (b:=b) (Ext.empty m A S E w) rfl hb⟩,hr.inj,hr.dis,hr.alt,hr.xlt,hr.glt⟩
theorem Uj {P:Program} {t:TypeId} {z:List AV} (hz:EP P t = some z) (h0:z.length≠0) (w:World):∃ zv:Value,
  (Instr.alloc t true (.tuple #[])).run P w = .ok (.pointer (some ⟨w.heap.size,0,none⟩)) (w.alloc (.cells zv.cells t))∧z.length = zv.cells.size∧(∀ x∈z,Bv x = true) ∧
   ∀ (X:Nat→Prop) (m:Bd) (A:Nat→Prop) (S:St) (w:World) (j:Nat) (x:AV),z[j]? = some x→∃ u,zv.cells[j]? = some u∧VR X m A S w x u:=by
 unfold EP at hz
 split at hz <;> try (cases hz; done)
 rename_i i hi
 rw [Option.map_eq_some_iff] at hz
 obtain ⟨zv,hzv,rfl⟩:=hz
 obtain ⟨c1,c2,_⟩:=(VR.ofV (X:=fun _=>False) (m:=fun _=>none) (A:=fun _=>False) (S:=[]) (w:=w) zv).cells h0
 exact ⟨zv,by simp [Instr.alloc,zeroValue,typeInfo,hi,hzv,newVar,newRow],c1,c2,fun X m A S w=>((VR.ofV zv).cells h0).2.2⟩
def CS (C:Cfg) (run:FuncId→List AV→St→Option (AV×St)) (f:FuncId) (ops:Array Oper) (fr:List AV) (S:St) (o:Oper) (v:AV) (S':St):Prop:=
 match o.guard with
 | none=>aop C run f fr S o = some (v,S')
 | some (j,want)=>∃ t,(ops[j]?).bind (·.dst) = some t∧((fr.getD t .non = .bool want∧aop C run f fr S o = some (v,S'))∨(v = und∧S' = S∧(fr.getD t .non = .bool !want∨∀ v,fr[t]? = some v→v = und)))
theorem Uu {C:Cfg} {run:FuncId→List AV→St→Option (AV×St)} {f:FuncId} {ops:Array Oper} {ρ:Type} {k:List AV→St→Option ρ} {r:ρ}:∀ (l:List Oper) (sk:List Nat) (fr:List AV) (S:St),GY sk fr→Gu C run f ops k l sk fr S = some r →
  ∃ (F:Nat→List AV) (Sx:Nat→St) (V:Nat→AV),F 0 = fr∧Sx 0 = S∧k (F l.length) (Sx l.length) = some r∧∀ i o,l[i]? = some o→CS C run f ops (F i) (Sx i) o (V i) (Sx (i + 1))∧F (i + 1) = DG (F i) o.dst (V i)
 | [],sk,fr,S,_,h=>⟨fun _=>fr,fun _=>S,fun _=>.non,rfl,rfl,h,fun i o ho=>by simp at ho⟩
 | o::rest,sk,fr,S,hsk,h=>by
  have key:∃ v S1 sk',GY sk' (DG fr o.dst v)∧CS C run f ops fr S o v S1∧Gu C run f ops k rest sk' (DG fr o.dst v) S1 = some r:=by
   simp only [Gu] at h
   unfold CS
   split at h
   ·rename_i hg
    obtain ⟨v,S1,h1,h2⟩:=FN h
    exact ⟨v,S1,_,hsk.del o.dst v,by rw [hg]; exact h1,h2⟩
   ·rename_i j want hg
    rw [hg]
    dsimp only
    split at h <;> try (cases h; done)
    rename_i t ht
    by_cases hs:Ff sk t = true
    ·rw [hs] at h
     simp only [cond_true] at h
     exact ⟨und,S,_,hsk.add o.dst,⟨t,ht,.inr ⟨rfl,rfl,.inr (hsk t hs)⟩⟩,h⟩
    ·have hs':Ff sk t = false:=by simpa using hs
     rw [hs'] at h
     simp only [cond_false] at h
     split at h <;> try (cases h; done)
     rename_i b hb
     by_cases hbw:(b == want) = true
     ·have e1:b = want:=by simpa using hbw
      subst e1
      rw [hbw] at h
      simp only [cond_true] at h
      rw [FF hb] at h
      obtain ⟨v,S1,h1,h2⟩:=FN h
      exact ⟨v,S1,_,hsk.del o.dst v,⟨t,ht,.inl ⟨hb,h1⟩⟩,h2⟩
     ·have hbw':(b == want) = false:=by simpa using hbw
      rw [hbw'] at h
      simp only [cond_false] at h
      have e1:b = !want:=by cases b <;> cases want <;> simp_all
      subst e1
      rw [FF hb] at h
      exact ⟨und,S,_,hsk.add o.dst,⟨t,ht,.inr ⟨rfl,rfl,.inl hb⟩⟩,h⟩
  obtain ⟨v,S1,sk',hsk',h1,h2⟩:=key
  obtain ⟨F,Sx,V,e1,e2,e3,e4⟩:=Uu rest sk' _ _ hsk' h2
  refine ⟨fun | 0=>fr | i + 1=>F i,fun | 0=>S | i + 1=>Sx i,fun | 0=>v | i + 1=>V i,rfl,rfl,e3,fun i o' ho=>?_⟩
  cases i with
  | zero=>
   simp only [List.getElem?_cons_zero,Option.some.injEq] at ho
   subst ho
   exact ⟨by show CS C run f ops fr S o v (Sx 0); rw [e2]; exact h1,e1⟩
  | succ i=>
   simp only [List.getElem?_cons_succ] at ho
   exact e4 i o' ho
theorem M9 (acc:List Nat) (j:Nat):∀ (es:List Edge) (s:Nat),(es.foldl (fun s e=>if Region.binds .any e then s ||| (2 ^ e.on) ||| acc.getD e.on 0 else s) s).testBit j = true →
  s.testBit j = true∨∃ e∈es,Region.binds .any e = true∧(e.on = j∨(acc.getD e.on 0).testBit j = true)
 | [],s,h=>.inl h
 | e::es,s,h=>by
  simp only [List.foldl_cons] at h
  rcases M9 acc j es _ h with h1 | ⟨e',h1,h2⟩
  ·split at h1
   ·rename_i hb
    simp only [Nat.testBit_or,Bool.or_eq_true,Nat.testBit_two_pow,decide_eq_true_eq] at h1
    rcases h1 with (h1 | h1) | h1
    ·exact .inl h1
    ·exact .inr ⟨e,by simp,hb,.inl h1⟩
    ·exact .inr ⟨e,by simp,hb,.inr h1⟩
   ·exact .inl h1
  ·exact .inr ⟨e',by simp [h1],h2⟩
def XE (ops:List Oper) (acc:List Nat):Prop:=
 ∀ i j,(acc.getD i 0).testBit j = true→∃ o,ops[i]? = some o∧∃ e∈o.after,Region.binds .any e = true∧(e.on = j∨(e.on < i∧(acc.getD e.on 0).testBit j = true))
theorem RU (ops:List Oper):∀ (l:List Oper) (pre:List Oper) (acc:List Nat),ops = pre++l→acc.length = pre.length→XE ops acc→XE ops (Eb l acc)
 | [],pre,acc,_,_,h=>h
 | o::l,pre,acc,he,hl,h=>by
  simp only [Eb]
  refine RU ops l (pre++[o]) _ (by simp [he]) (by simp [hl]) ?_
  intro i j hij
  by_cases hi:i < acc.length
  ·have e1:∀ x i,i < acc.length→(acc++[x]).getD i 0 = acc.getD i 0:=fun x i hi=>by simp [List.getD,List.getElem?_append_left hi]
   rw [e1 _ i hi] at hij
   obtain ⟨o',h1,e,h2,h3,h4⟩:=h i j hij
   refine ⟨o',h1,e,h2,h3,h4.imp id fun ⟨k1,k2⟩=>⟨k1,?_⟩⟩
   rw [e1 _ _ (by omega)]; exact k2
  ·by_cases hi2:i = acc.length
   ·subst hi2
    have e1:∀ x:Nat,(acc++[x]).getD acc.length 0 = x:=fun x=>by simp [List.getD]
    rw [e1] at hij
    rcases M9 acc j _ _ hij with h1 | ⟨e,h1,h2,h3⟩
    ·simp at h1
    ·refine ⟨o,by rw [he,hl]; simp,e,by simpa using h1,h2,h3.imp id fun k=>?_⟩
     have hlt:e.on < acc.length:=by
      rcases Nat.lt_or_ge e.on acc.length with q | q
      ·exact q
      ·simp [List.getD,List.getElem?_eq_none q] at k
     refine ⟨hlt,?_⟩
     simp only [List.getD,List.getElem?_append_left hlt]
     exact k
   ·have:∀ x:Nat,(acc++[x]).getD i 0 = 0:=fun x=>by simp [List.getD,List.getElem?_eq_none (show (acc++[x]).length≤i by simp; omega)]
    rw [this] at hij
    simp at hij
theorem H9 {ops:Array Oper} {listed:Array Bool} (hc:∀ i o,ops[i]? = some o→listed.getD i false = true→∀ e∈o.after,Region.binds .any e = true→listed.getD e.on false = true) :
  ∀ (i:Nat) (o:Oper) (j:Nat),ops[i]? = some o→(∀ e∈o.after,Region.binds .any e = true→listed.getD e.on false = true)→((Eb ops.toList []).getD i 0).testBit j = true→listed.getD j false = true:=by
 have hb:XE ops.toList (Eb ops.toList []):=RU ops.toList ops.toList [] [] rfl rfl (fun i j h=>by simp [List.getD] at h)
 intro i
 induction i using Nat.strongRecOn with
 | _ i ih=>
  intro o j ho hall hij
  obtain ⟨o',h1,e,h2,h3,h4⟩:=hb i j hij
  have e1:o' = o:=by
   have:ops[i]? = some o':=by simpa using h1
   rw [ho] at this; injection this with this; exact this.symm
  subst e1
  have hl:=hall e h2 h3
  rcases h4 with h4 | ⟨h4,h5⟩
  ·rw [← h4]; exact hl
  ·have hlt:e.on < ops.size:=by have:=(Array.getElem?_eq_some_iff.1 ho).1; omega
   obtain ⟨o2,ho2⟩:∃ o2,ops[e.on]? = some o2:=⟨ops[e.on],Array.getElem?_eq_getElem hlt⟩
   exact ih e.on h4 o2 j ho2 (hc e.on o2 ho2 hl) h5
theorem Ii:∀ (l:List Oper) (k:Nat),J2 k l = true→∀ i o,l[i]? = some o→∀ e∈o.after,Region.binds .any e = true→e.on < k + i
 | [],k,_,i,o,ho,_,_,_=>by simp at ho
 | o::r,k,h,i,o',ho,e,he,hb=>by
  simp only [J2,Bool.and_eq_true,List.all_eq_true,Bool.or_eq_true,decide_eq_true_eq] at h
  cases i with
  | zero=>
   simp only [List.getElem?_cons_zero,Option.some.injEq] at ho
   subst ho
   rcases h.1 e (by simpa using he) with h1 | h1
   ·rw [hb] at h1; simp at h1
   ·omega
  | succ i=>
   simp only [List.getElem?_cons_succ] at ho
   have:=Ii r (k + 1) h.2 i o' ho e he hb
   omega
theorem HS {C:Cfg} {f:FuncId} {ops:Array Oper} {bef:List Nat}:∀ (l:List Nat),Ju C f ops bef l = true→∀ (p q i j:Nat),p < q→l[p]? = some i→l[q]? = some j →
  (bef.getD j 0).testBit i = true∨(((CC C f (ops.getD i default) = true∧CC C f (ops.getD j default) = true)∨(FA C (ops.getD i default) = true∨IJ C f ops i = true∨(GX (ops.getD i default) = true∧(EH C f (ops.getD j default) = true∨GT_ C f ops j = true))))∧G5 ops (ops.getD i default) (ops.getD j default) = false)
 | [],_,p,q,i,j,_,hp,_=>by simp at hp
 | x::r,h,p,q,i,j,hpq,hp,hq=>by
  simp only [Ju,Xz,Bool.and_eq_true,List.all_eq_true,Bool.or_eq_true,Bool.not_eq_true'] at h
  cases q with
  | zero=>omega
  | succ q=>
   simp only [List.getElem?_cons_succ] at hq
   cases p with
   | zero=>
    simp only [List.getElem?_cons_zero,Option.some.injEq] at hp
    subst hp
    have:=h.1 j (List.mem_of_getElem? hq)
    rcases this with h1 | ⟨((h1 | h1) | h1) | h1,h2⟩
    ·exact .inl h1
    ·exact .inr ⟨.inl h1,h2⟩
    ·exact .inr ⟨.inr (.inl h1),h2⟩
    ·exact .inr ⟨.inr (.inr (.inl h1)),h2⟩
    ·exact .inr ⟨.inr (.inr (.inr h1)),h2⟩
   | succ p=>
    simp only [List.getElem?_cons_succ] at hp
    exact HS r h.2 p q i j (by omega) hp hq
theorem Ft {ops:Array Oper} {o p:Oper} (h:G5 ops o p = false) :
  (∀ t,o.dst = some t→t ∉ p.looksAt ops)∧(∀ t,o.dst = some t→p.dst≠some t)∧(∀ t,p.dst = some t→t ∉ o.looksAt ops):=by
 refine ⟨fun t ht=>?_,fun t ht=>?_,fun t ht=>?_⟩ <;> simp [G5,ht] at h
 ·exact h.1.1
 ·exact h.1.2
 ·exact h.2
theorem PU {l:List Nat} {p:Nat→Bool} {i:Nat}:i∈l.filter p++l.filter (fun i=>!p i) ↔ i∈l:=by
 simp only [List.mem_append,List.mem_filter]
 cases p i <;> simp
theorem Nh {l:List Nat} (p:Nat→Bool) (h:l.Nodup):(l.filter p++l.filter fun i=>!p i).Nodup:=by
 rw [List.nodup_append]
 refine ⟨h.filter _,h.filter _,fun a ha b hb=>?_⟩
 simp only [List.mem_filter] at ha hb
 intro e; subst e
 rw [ha.2] at hb; simp at hb
section
variable {C:Cfg} {f:FuncId}
theorem JO (ops:Array Oper) {i:Nat}:i∈(if ops.toList.any (EH C f) then (Jp ops).filter (IT C f ops (Eb ops.toList []))++(Jp ops).filter (fun i=>!IT C f ops (Eb ops.toList []) i) else Jp ops) ↔ i < ops.size∧KP ops i = false:=by
 have h:i∈Jp ops ↔ i < ops.size∧KP ops i = false:=by simp [Jp]
 split
 ·rw [PU]; exact h
 ·exact h
theorem PN (ops:Array Oper):(if ops.toList.any (EH C f) then (Jp ops).filter (IT C f ops (Eb ops.toList []))++(Jp ops).filter (fun i=>!IT C f ops (Eb ops.toList []) i) else Jp ops).Nodup:=by
 have h:(Jp ops).Nodup:=List.nodup_range.filter _
 split
 ·exact Nh _ h
 ·exact h
theorem JP {ops:Array Oper} {i:Nat}:i∈BA C f ops ↔ i < ops.size:=by
 unfold BA
 rw [List.mem_append,JO]
 simp only [List.mem_filter,List.mem_range]
 cases KP ops i <;> simp
theorem C0 (ops:Array Oper):(BA C f ops).Nodup:=by
 unfold BA
 rw [List.nodup_append]
 refine ⟨List.nodup_range.filter _,PN ops,fun a ha b hb=>?_⟩
 rw [JO] at hb
 simp only [List.mem_filter] at ha
 intro e; subst e
 rw [ha.2] at hb; simp at hb
end
end Go.Rf
