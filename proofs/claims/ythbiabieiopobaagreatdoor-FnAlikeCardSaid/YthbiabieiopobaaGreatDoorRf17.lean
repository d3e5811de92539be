/- A region whose order is drawn comes to what the text's order comes to. -/
import Derived.Test.YthbiabieiopobaaGreatDoorRf16
set_option linter.unusedVariables false
set_option linter.unusedSimpArgs false
namespace Go.Rf
open Go
variable {g0:Nat} {X:Nat→Prop} {m:Bd} {A:Nat→Prop} {w:World}
def dn (L:List Nat) (listed:Array Bool) (k:Nat):Prop:=∃ i,L[k]? = some i∧listed.getD i false = true
def wrs (ops:Array Oper) (L:List Nat) (k t:Nat):Prop:=∃ i o,L[k]? = some i∧ops[i]? = some o∧o.dst = some t
def pu (C:Cfg) (f:FuncId) (ops:Array Oper) (L:List Nat) (k:Nat):Prop:=∃ i o,L[k]? = some i∧ops[i]? = some o∧BX C f o = true
def FO (C:Cfg) (run:FuncId→List AV→St→Option (AV×St)) (f:FuncId) (ops:Array Oper) (L:List Nat) (F:Nat→List AV) (Sx:Nat→St) (V:Nat→AV) (k:Nat):Prop:=
 ∃ i o,L[k]? = some i∧ops[i]? = some o∧BX C f o = true∧∀ q,k≤q→q≤L.length→(∀ (j y:Nat) (oj:Oper),k < j→j < q→L[j]? = some y→ops[y]? = some oj→BX C f oj = true∨((Eb ops.toList []).getD y 0).testBit i = false)→CS C run f ops (F k) (Sx q) o (V k) (Sx q)
def NJ (Sx:Nat→St) (q:Nat):Prop:=∀ (b:Nat) B,(Sx q)[b]? = some B→(Sx (q + 1))[b]? = some B
structure Dx (C:Cfg) (run:FuncId→List AV→St→Option (AV×St)) (f:FuncId) (ops:Array Oper) (L:List Nat) (h:Nat) (F:Nat→List AV) (Sx:Nat→St) (V:Nat→AV):Prop where
 mem:∀ i,i∈L ↔ i < ops.size
 nodup:L.Nodup
 al:∀ (k i:Nat) (o:Oper),L[k]? = some i→ops[i]? = some o→(k < h ↔ GX o = true)
 hL:h≤L.length
 pairs:∀ (p q i j:Nat) (oi oj:Oper),p < q→L[p]? = some i→L[q]? = some j→ops[i]? = some oi→ops[j]? = some oj →
  ((Eb ops.toList []).getD j 0).testBit i = true∨(((CC C f oi = true∧CC C f oj = true)∨FO C run f ops L F Sx V p∨(GX oi = true∧NJ Sx q∧CC C f oj = false))∧G5 ops oi oj = false)
 edges:∀ (i:Nat) (o:Oper),ops[i]? = some o→∀ e∈o.after,Region.binds .any e = true→e.on < i
 tr:∀ (k i:Nat) (o:Oper),L[k]? = some i→ops[i]? = some o→CS C run f ops (F k) (Sx k) o (V k) (Sx (k + 1))∧F (k + 1) = DG (F k) o.dst (V k)
section
variable {C:Cfg} {run:FuncId→List AV→St→Option (AV×St)} {f:FuncId} {ops:Array Oper} {L:List Nat} {h:Nat} {F:Nat→List AV} {Sx:Nat→St} {V:Nat→AV}
theorem Dx.op (hs:Dx C run f ops L h F Sx V) {k:Nat} (hk:k < L.length):∃ i o,L[k]? = some i∧ops[i]? = some o:=by
 have h1:=List.getElem?_eq_getElem hk
 have h2:=(hs.mem L[k]).1 (List.getElem_mem hk)
 exact ⟨_,ops[L[k]],h1,Array.getElem?_eq_getElem h2⟩
theorem QT {fr:List AV} {d:Option Tmp} {v:AV} {t:Nat} (hd:d≠some t):(DG fr d v)[t]? = fr[t]?:=by
 cases d with
 | none=>rfl
 | some d=>simp only [DG]; rw [List.getElem?_set_ne (fun e=>hd (by rw [e]))]
theorem Oa (fr:List AV) (d:Option Tmp) (v:AV):(DG fr d v).length = fr.length:=by cases d <;> simp [DG]
theorem Dx.stay (hs:Dx C run f ops L h F Sx V) {t i:Nat}:∀ i',i≤i'→i'≤L.length→(∀ j,i≤j→j < i'→¬ wrs ops L j t)→(F i')[t]? = (F i)[t]?:=by
 intro i' hi
 induction hi with
 | refl=>intro _ _; rfl
 | step hi ih=>
  rename_i q
  intro hq hw
  obtain ⟨x,o,h1,h2⟩:=hs.op (show q < L.length by omega)
  rw [(hs.tr q x o h1 h2).2,QT (fun e=>hw q hi (by omega) ⟨x,o,h1,h2,e⟩)]
  exact ih (by omega) fun j hj hj'=>hw j hj (by omega)
theorem CS.quiet {fr:List AV} {S S':St} {o:Oper} {v:AV} (hp:BX C f o = true) (hh:CS C run f ops fr S o v S'):S' = S:=by
 unfold CS at hh
 split at hh
 ·exact IS hp hh
 ·obtain ⟨t,_,hh | hh⟩:=hh
  ·exact IS hp hh.2
  ·exact hh.2.1
theorem Dx.store (hs:Dx C run f ops L h F Sx V) {i:Nat}:∀ i',i≤i'→(∀ j,i≤j→j < i'→pu C f ops L j)→Sx i' = Sx i:=by
 intro i' hi
 induction hi with
 | refl=>intro _; rfl
 | step hi ih=>
  rename_i q
  intro hw
  obtain ⟨x,o,h1,h2,h3⟩:=hw q hi (by omega)
  rw [(hs.tr q x o h1 h2).1.quiet h3]
  exact ih fun j hj hj'=>hw j hj (by omega)
theorem Dx.len (hs:Dx C run f ops L h F Sx V):∀ k,k≤L.length→(F k).length = (F 0).length
 | 0,_=>rfl
 | k + 1,hk=>by
  obtain ⟨x,o,h1,h2⟩:=hs.op (show k < L.length by omega)
  rw [(hs.tr k x o h1 h2).2,Oa]
  exact hs.len k (by omega)
theorem Dx.alloc (hs:Dx C run f ops L h F Sx V) {k i:Nat} {o:Oper} (hk:k < h) (h1:L[k]? = some i) (h2:ops[i]? = some o) :
  ∃ t z,o.op = .alloc t∧o.guard = none∧EP C.P t = some z∧z.length≠0∧V k = .bp (Sx k).length 0 0 z.length 1∧Sx (k + 1) = Sx k++[⟨z.length,[z],z.all AC⟩]:=by
 have ha:=(hs.al k i o h1 h2).1 hk
 obtain ⟨dst,op,type,pos,after,guard⟩:=o
 unfold GX at ha
 split at ha <;> try (cases ha; done)
 rename_i t hg ho
 dsimp only at hg ho
 subst hg; subst ho
 have hst:=(hs.tr k i _ h1 h2).1
 simp only [CS,aop] at hst
 split at hst <;> try (cases hst; done)
 rename_i z hz
 split at hst <;> try (cases hst; done)
 rename_i h0
 injection hst with hst
 simp only [A5] at hst
 injection hst with e1 e2
 exact ⟨t,z,rfl,rfl,hz,h0,e1.symm,e2.symm⟩
theorem Dx.grow (hs:Dx C run f ops L h F Sx V) {k:Nat}:∀ k',k≤k'→k'≤h→∃ E,Sx k' = Sx k++E∧k' - k≤E.length:=by
 intro k' hk
 induction hk with
 | refl=>intro _; exact ⟨[],by simp,by simp⟩
 | step hk ih=>
  rename_i q
  intro hq
  obtain ⟨E,h1,h1'⟩:=ih (by omega)
  obtain ⟨x,o,h2,h3⟩:=hs.op (show q < L.length by have:=hs.hL; omega)
  obtain ⟨t,z,_,_,_,_,_,e⟩:=hs.alloc (show q < h by omega) h2 h3
  exact ⟨E++[⟨z.length,[z],z.all AC⟩],by rw [e,h1]; simp,by simp; omega⟩
theorem Ua {o:Oper} (h:FA C o = true):BX C f o = true:=by
 obtain ⟨dst,op,type,pos,after,guard⟩:=o
 cases op <;> simp [FA] at h <;> first | rfl | (simp [BX,h])
theorem Ib {x:Option AV} {S S1 S2:St} {v:AV} (h:x.map (·,S) = some (v,S1)):x.map (·,S2) = some (v,S2):=by
 cases x with
 | none=>cases h
 | some y=>injection h with h; injection h with h1 _; subst h1; rfl
theorem OO {o:Oper} (h:FA C o = true) {fr:List AV} {S S1 S2:St} {v:AV} (ha:aop C run f fr S o = some (v,S1)):aop C run f fr S2 o = some (v,S2):=by
 obtain ⟨dst,op,type,pos,after,guard⟩:=o
 cases op <;> simp [FA] at h <;> simp only [aop] at ha ⊢
 case move x=>injection ha with ha; injection ha with h1 _; rw [h1]
 case assign x=>injection ha with ha; injection ha with h1 _; rw [h1]
 case pick c a b=>
  split at ha <;> try (cases ha; done)
  rename_i t ht
  injection ha with ha; injection ha with h1 _; rw [h1]
 case buildSlice t len parts=>
  have e:(XS C.P t || Nat.beq len 0) = true:=by rcases h with h | h <;> simp [h]
  rw [e] at ha ⊢
  simp only [cond_true] at ha ⊢
  unfold AN A3 at ha ⊢
  split at ha <;> try (cases ha; done)
  rename_i l fl es S3 h3
  injection ha with ha; injection ha with h1 _; subst h1
  split at h3 <;> try (cases h3; done)
  split at h3 <;> try (cases h3; done)
  split at h3 <;> try (cases h3; done)
  rename_i hc
  rw [Option.map_eq_some_iff] at h3
  obtain ⟨es',h4,h5⟩:=h3
  unfold mkS at h5
  split at h5
  ·rename_i hr
   injection h5 with h5 _
   simp only [if_pos hc,h4,Option.map_some,mkS,if_pos hr,h5]
  ·injection h5 with h5 _; cases h5
 case nilCheck x=>
  split at ha <;> first | (cases ha; done) | (injection ha with ha; injection ha with h1 _; rw [h1])
 case extract t i=>
  split at ha <;> try (cases ha; done)
  exact Ib ha
 case fieldAddr t x i=>
  split at ha <;> try (cases ha; done)
  split at ha <;> try (cases ha; done)
  split at ha <;> try (cases ha; done)
  rename_i hpos
  rw [if_pos hpos]
  exact Ib ha
 all_goals exact Ib ha
theorem CS.any {o:Oper} (h:FA C o = true) {fr:List AV} {S S1 S2:St} {v:AV} (ha:CS C run f ops fr S o v S1):CS C run f ops fr S2 o v S2:=by
 unfold CS at ha ⊢
 split at ha
 ·exact OO h ha
 ·obtain ⟨t,ht,q | q⟩:=ha
  ·exact ⟨t,ht,.inl ⟨q.1,OO h q.2⟩⟩
  ·exact ⟨t,ht,.inr ⟨q.1,rfl,q.2.2⟩⟩
theorem FO.pu {k:Nat} (h:FO C run f ops L F Sx V k):Go.Rf.pu C f ops L k:=by
 obtain ⟨i,o,h1,h2,h3,_⟩:=h
 exact ⟨i,o,h1,h2,h3⟩
theorem FO.pure {k i:Nat} {o:Oper} (h:FO C run f ops L F Sx V k) (h1:L[k]? = some i) (h2:ops[i]? = some o):BX C f o = true:=by
 obtain ⟨x,y,q1,q2,q3,_⟩:=h
 rw [h1] at q1; injection q1 with q1; subst q1
 rw [h2] at q2; injection q2 with q2; subst q2
 exact q3
theorem H5 {C:Cfg} {run:FuncId→List AV→St→Option (AV×St)} {f:FuncId} {fr:List AV} {S S':St} {o:Oper} {v:AV} (hg:EH C f o = true) (h:aop C run f fr S o = some (v,S')) :
  ∀ (b:Nat) B,S[b]? = some B→S'[b]? = some B:=by
 intro b B hB
 obtain ⟨dst,op,type,pos,after,guard⟩:=o
 have app:∀ E,(S++E)[b]? = some B:=fun E=>by
  rw [List.getElem?_append_left (List.getElem?_eq_some_iff.1 hB).1]; exact hB
 cases op <;> simp only [EH,Bool.false_eq_true] at hg
 case buildSlice t len parts=>
  simp only [aop] at h
  have h:=LN h
  unfold A3 at h
  split at h <;> try (cases h; done)
  split at h <;> try (cases h; done)
  split at h <;> try (cases h; done)
  rw [Option.map_eq_some_iff] at h
  obtain ⟨es,_,h⟩:=h
  unfold mkS at h
  split at h <;> injection h with _ h <;> subst h
  ·exact hB
  ·exact app _
 rename_i c
 obtain ⟨callee,args,ats⟩:=c
 cases callee <;> simp only [Bool.false_eq_true] at hg
 rename_i g
 cases g <;> simp only [Bool.false_eq_true,Bool.or_eq_true,beq_iff_eq] at hg
 rename_i g
 rcases hg with hg | hg <;> simp only [aop,aev,MJ,hg] at h
 ·repeat' (split at h)
  all_goals first
   | (cases h; done)
   | (injection h with h; injection h with _ h; subst h; exact app _)
 ·repeat' (split at h)
  all_goals first
   | (cases h; done)
   | (rename_i hE; injection h with h; injection h with _ h; subst h; obtain ⟨E,rfl⟩:=hE; exact app E)
structure F4 (C:Cfg) (run:FuncId→List AV→St→Option (AV×St)) (f:FuncId) (ops:Array Oper) (L:List Nat) (h:Nat) (F:Nat→List AV) (Sx:Nat→St) (V:Nat→AV) (g0:Nat) (X:Nat→Prop) (m0:Bd) (A0:Nat→Prop) (S0:St) (w0:World) (W:List Nat) (a0:Act)
  (p:Nat) (m:Bd) (A:Nat→Prop) (listed:Array Bool) (a:Act) (w:World):Prop where
 hp:h≤p
 pn:p≤L.length
 i1:h < p→∀ k,k < p→dn L listed k∨FO C run f ops L F Sx V k∨k < h
 i2:∀ k,p≤k→dn L listed k→pu C f ops L k
 rel:Rel g0 X m A (Sx p) w
 ext:Ext m0 A0 S0 w0 m A (Sx p) w
 i4:∀ k,k < h→¬ dn L listed k→m (Sx k).length = none∧(Sx p)[(Sx k).length]? = (Sx (k + 1))[(Sx k).length]?
 i5:∀ i,i≤L.length→(∀ j,p≤j→j < i→pu C f ops L j)→∀ (t:Nat) (v:AV) (cv:Value),(∀ j,j < i→wrs ops L j t→dn L listed j)→(∀ j,i≤j→wrs ops L j t→¬ dn L listed j) →
  (F i)[t]? = some v→a.tmps[t]? = some cv→VR X m A (Sx p) w v cv
 size:(F 0).length = a.tmps.size
 defers:a.defers = []
 keeps:DT W a0 a
 closed:∀ (i:Nat) (o:Oper),ops[i]? = some o→listed.getD i false = true→∀ e∈o.after,Region.binds .any e = true→listed.getD e.on false = true
 lsize:listed.size = ops.size
variable {m0:Bd} {A0:Nat→Prop} {S0:St} {w0:World} {W:List Nat} {a0:Act} {p:Nat} {listed:Array Bool} {a:Act}
theorem Db (hs:Dx C run f ops L h F Sx V) {k i:Nat} (hk:L[k]? = some i) (hi:i < listed.size) {j:Nat}:dn L (listed.setIfInBounds i true) j ↔ (dn L listed j∨j = k):=by
 have hinj:∀ {j:Nat},L[j]? = some i→j = k:=fun {j} hj=>by
  have hj':=(List.getElem?_eq_some_iff.1 hj)
  have hk':=(List.getElem?_eq_some_iff.1 hk)
  obtain ⟨a1,a2⟩:=hj'; obtain ⟨b1,b2⟩:=hk'
  exact (List.getElem_inj hs.nodup).1 (by rw [a2,b2])
 constructor
 ·rintro ⟨x,h1,h2⟩
  by_cases e:i = x
  ·subst e; exact .inr (hinj h1)
  ·rw [getD_set_ne false e] at h2; exact .inl ⟨x,h1,h2⟩
 ·rintro (⟨x,h1,h2⟩ | rfl)
  ·exact ⟨x,h1,getD_set_true h2⟩
  ·exact ⟨i,hk,by simp [hi]⟩
structure Now (C:Cfg) (run:FuncId→List AV→St→Option (AV×St)) (f:FuncId) (ops:Array Oper) (L:List Nat) (F:Nat→List AV) (Sx:Nat→St) (V:Nat→AV) (listed:Array Bool) (k i:Nat) (o:Oper):Prop where
 pos:L[k]? = some i
 op:ops[i]? = some o
 lt:i < listed.size
 not:¬ dn L listed k
 all:∀ e∈o.after,Region.binds .any e = true→listed.getD e.on false = true
 r1:∀ (j x:Nat) (oj:Oper),j < k→L[j]? = some x→ops[x]? = some oj→dn L listed j∨(((CC C f oj = true∧CC C f o = true)∨FO C run f ops L F Sx V j∨(GX oj = true∧NJ Sx k∧CC C f o = false))∧G5 ops oj o = false)
 r2:∀ (j x:Nat) (oj:Oper),k < j→L[j]? = some x→ops[x]? = some oj→¬ dn L listed j∨(((CC C f o = true∧CC C f oj = true)∨FO C run f ops L F Sx V k∨(GX o = true∧NJ Sx j∧CC C f oj = false))∧G5 ops o oj = false)
theorem F4.now (hs:Dx C run f ops L h F Sx V) (hi:F4 C run f ops L h F Sx V g0 X m0 A0 S0 w0 W a0 p m A listed a w) {i:Nat} (hr:i∈Region.ready .any ops listed):∃ k o,Now C run f ops L F Sx V listed k i o:=by
 obtain ⟨h0,o,ho,hall⟩:=mem_ready.1 hr
 have hlt:i < ops.size:=(Array.getElem?_eq_some_iff.1 ho).1
 have hlt':i < listed.size:=by rw [hi.lsize]; exact hlt
 have hf:listed.getD i false = false:=by
  simp [hlt'] at h0 ⊢; exact h0
 obtain ⟨k,hk⟩:=List.getElem?_of_mem ((hs.mem i).2 hlt)
 have hnot:¬ dn L listed k:=fun ⟨x,h1,h2⟩=>by
  rw [hk] at h1; injection h1 with h1; subst h1
  rw [hf] at h2; cases h2
 refine ⟨k,o,hk,ho,hlt',hnot,hall,fun j x oj hj hx hoj=>?_,fun j x oj hj hx hoj=>?_⟩
 ·rcases hs.pairs j k x i oj o hj hx hk hoj ho with h1 | h1
  ·exact .inl ⟨x,hx,H9 hi.closed i o x ho hall h1⟩
  ·exact .inr h1
 ·rcases hs.pairs k j i x o oj hj hk hx ho hoj with h1 | h1
  ·refine .inl fun ⟨y,hy,hd⟩=>?_
   rw [hx] at hy; injection hy with hy; subst hy
   have:=H9 hi.closed x oj i hoj (hi.closed x oj hoj hd) h1
   rw [hf] at this; cases this
  ·exact .inr h1
theorem Now.closed {k i:Nat} {o:Oper} (hn:Now C run f ops L F Sx V listed k i o) (hi:F4 C run f ops L h F Sx V g0 X m0 A0 S0 w0 W a0 p m A listed a w) :
  ∀ (i':Nat) (o':Oper),ops[i']? = some o'→(listed.setIfInBounds i true).getD i' false = true→∀ e∈o'.after,Region.binds .any e = true→(listed.setIfInBounds i true).getD e.on false = true:=by
 intro i' o' ho' hd e he hb
 by_cases e1:i = i'
 ·subst e1
  rw [hn.op] at ho'; injection ho' with ho'; subst ho'
  exact getD_set_true (hn.all e he hb)
 ·rw [getD_set_ne false e1] at hd
  exact getD_set_true (hi.closed i' o' ho' hd e he hb)
theorem JC (hs:Dx C run f ops L h F Sx V) (hi:F4 C run f ops L h F Sx V g0 X m0 A0 S0 w0 W a0 p m A listed a w) {k i:Nat} {o:Oper} (hn:Now C run f ops L F Sx V listed k i o) (hl:CC C f o = true)
  {m':Bd} {A':Nat→Prop} {w':World} {cvk:Value} (htr:∀ v cv,VR X m A (Sx p) w v cv→VR X m' A' (Sx p) w' v cv) (hv:VR X m' A' (Sx p) w' (V k) cvk) :
  ∀ i',i'≤L.length→(∀ j,p≤j→j < i'→pu C f ops L j)→∀ (t:Nat) (v:AV) (cv:Value),(∀ j,j < i'→wrs ops L j t→dn L (listed.setIfInBounds i true) j)→(∀ j,i'≤j→wrs ops L j t→¬ dn L (listed.setIfInBounds i true) j) →
   (F i')[t]? = some v→(a.put o.dst cvk).tmps[t]? = some cv→VR X m' A' (Sx p) w' v cv:=by
 intro i' hin hpu t v cv hp1 hp2 hF hcv
 by_cases hd:o.dst = some t
 ·have hwk:wrs ops L k t:=⟨i,o,hn.pos,hn.op,hd⟩
  have hki:k < i':=by
   rcases Nat.lt_or_ge k i' with q | q
   ·exact q
   ·exact absurd ((Db hs hn.pos hn.lt).2 (.inr rfl)) (hp2 k q hwk)
  have hno:∀ j,k + 1≤j→j < i'→¬ wrs ops L j t:=by
   rintro j hj hj' ⟨x,oj,h1,h2,h3⟩
   rcases (Db hs hn.pos hn.lt).1 (hp1 j hj' ⟨x,oj,h1,h2,h3⟩) with h4 | h4
   ·rcases hn.r2 j x oj (by omega) h1 h2 with h5 | ⟨_,h5⟩
    ·exact h5 h4
    ·exact (Ft h5).2.1 t hd h3
   ·omega
  rw [hs.stay i' hki hin hno,(hs.tr k i o hn.pos hn.op).2,hd] at hF
  simp only [DG] at hF
  have ht:t < (F k).length:=by have:=(List.getElem?_eq_some_iff.1 hF).1; simpa using this
  rw [List.getElem?_set_self ht] at hF
  injection hF with hF; subst hF
  have hkl:k < L.length:=(List.getElem?_eq_some_iff.1 hn.pos).1
  have ht':t < a.tmps.size:=by rw [← hi.size,← hs.len k (by omega)]; exact ht
  rw [hd] at hcv
  simp [Act.put,ht'] at hcv
  subst hcv; exact hv
 ·have hcv':a.tmps[t]? = some cv:=by
   cases hdd:o.dst with
   | none=>rw [hdd] at hcv; exact hcv
   | some d=>
    rw [hdd] at hcv hd
    simp only [Act.put] at hcv
    rwa [Array.getElem?_setIfInBounds_ne (fun e=>hd (by rw [e]))] at hcv
  have hnk:¬ wrs ops L k t:=fun ⟨x,ok,h1,h2,h3⟩=>by
   rw [hn.pos] at h1; injection h1 with h1; subst h1
   rw [hn.op] at h2; injection h2 with h2; subst h2
   exact hd h3
  refine htr v cv (hi.i5 i' hin hpu t v cv (fun j hj hw=>?_) (fun j hj hw hdn=>hp2 j hj hw ((Db hs hn.pos hn.lt).2 (.inl hdn))) hF hcv')
  rcases (Db hs hn.pos hn.lt).1 (hp1 j hj hw) with h1 | h1
  ·exact h1
  ·subst h1; exact absurd hw hnk
theorem OB {G:World→Prop} (hN:Di C.P) (hrun:Gt C.P g0 G run) {S S':St} (hr:Rel g0 X m A S w) (hG:G w) {fr fr':List AV} {o:Oper} {v:AV} (hst:CS C run f ops fr S o v S')
  (hf:FR X m A S w fr' a) (hag:∀ t∈o.looksAt ops,fr'[t]? = fr[t]?) {i:Nat} (ho:ops[i]? = some o) {K:Act→World→Prop} {Q:Exit→Act→World→Prop}
  (hK:∀ m' A' w' cv,Rel g0 X m' A' S' w'→Ext m A S w m' A' S' w'→VR X m' A' S' w' v cv→K (a.put o.dst cv) w'):wpOp C.P ops Q i K a w:=by
 have hev:∀ x∈o.op.operands,aev fr' x = aev fr x:=by
  intro x hx
  cases x with
  | tmp t=>
   have:=hag t (List.mem_append_left _ (List.mem_filterMap.2 ⟨.tmp t,by simpa using hx,rfl⟩))
   simp [aev,List.getD,this]
  | const v=>rfl
  | global g=>rfl
  | func f=>rfl
 have haop:=Ui (C:=C) (run:=run) (f:=f) (S:=S) o hev
 unfold wpOp
 rw [ho]
 dsimp only
 unfold CS at hst
 split at hst
 ·rename_i hg
  rw [if_pos (by simp [Region.wanted,hg])]
  exact .inl (NH hN hrun hr hG hf (haop.trans hst) _ _ fun m' A' w' cv k1 k2 k3=>hK m' A' w' cv k1 k2 k3)
 ·rename_i j want hg
  obtain ⟨t,ht,hst⟩:=hst
  have hgg:=hag t (List.mem_append_right _ (by rw [hg]; simp [ht]))
  have hgt:fr'.getD t .non = fr.getD t .non:=by
   simp [List.getD,hgg]
  rcases hst with ⟨hb,hst⟩ | ⟨rfl,rfl,hb⟩
  ·have hy:=FP ht hf (hgt.trans hb)
   rw [if_pos (by simp [Region.wanted,hg,hy])]
   exact .inl (NH hN hrun hr hG hf (haop.trans hst) _ _ fun m' A' w' cv k1 k2 k3=>hK m' A' w' cv k1 k2 k3)
  ·rw [if_neg (by
    rcases hb with hb | hb
    ·have hy:=FP ht hf (hgt.trans hb)
     simp [Region.wanted,hg,hy]
    ·have hy:=Gv ht hf (by rw [hgg]; exact hb)
     simp [Region.wanted,hg,hy])]
   exact hK m A w undef hr (Ext.refl _ _ _ _) VR.und
def mask (rs:List Nat) (fr:List AV):List AV:=fr.mapIdx fun t v=>if t∈rs then v else .non
theorem G3 (rs:List Nat) (fr:List AV) (t:Nat):(mask rs fr)[t]? = (fr[t]?).map fun v=>if t∈rs then v else .non:=by
 simp [mask,List.getElem?_mapIdx]
abbrev GA (C:Cfg) (run:FuncId→List AV→St→Option (AV×St)) (f:FuncId) (ops:Array Oper) (L:List Nat) (h:Nat) (F:Nat→List AV) (Sx:Nat→St) (V:Nat→AV) (g0:Nat) (X:Nat→Prop) (m0:Bd) (A0:Nat→Prop) (S0:St) (w0:World) (W:List Nat) (a0:Act) (listed:Array Bool) (a:Act) (w:World) (i:Nat):Prop:=
 ∀ (K:Act→World→Prop) (Q:Exit→Act→World→Prop),(∀ p m A a' w',F4 C run f ops L h F Sx V g0 X m0 A0 S0 w0 W a0 p m A (listed.setIfInBounds i true) a' w'→K a' w')→wpOp C.P ops Q i K a w
theorem Jc {o:Oper} (hp:BX C f o = true):GX o = false:=by
 obtain ⟨dst,op,type,pos,after,guard⟩:=o
 cases op <;> simp [BX] at hp <;> cases guard <;> rfl
theorem Dx.notal (hs:Dx C run f ops L h F Sx V) {k i:Nat} {o:Oper} (h1:L[k]? = some i) (h2:ops[i]? = some o) (ha:GX o = false):h≤k:=by
 rcases Nat.lt_or_ge k h with q | q
 ·rw [(hs.al k i o h1 h2).1 q] at ha; cases ha
 ·exact q
theorem F4.ge (hi:F4 C run f ops L h F Sx V g0 X m0 A0 S0 w0 W a0 p m A listed a w) {k:Nat} (hk:h≤k) (hn:¬ dn L listed k):p≤k∨(k < p∧FO C run f ops L F Sx V k):=by
 rcases Nat.lt_or_ge k p with q | q
 ·rcases (hi.i1 (by omega) k q).resolve_left hn with h1 | h1
  ·exact .inr ⟨q,h1⟩
  ·omega
 ·exact .inl q
theorem SG {G:World→Prop} (hN:Di C.P) (hrun:Gt C.P g0 G run) (hG:∀ m A S w,Ext m0 A0 S0 w0 m A S w→G w) (hW:∀ (i:Nat) (o:Oper),ops[i]? = some o→∀ t,o.dst = some t→t∈W)
  (hs:Dx C run f ops L h F Sx V) (hi:F4 C run f ops L h F Sx V g0 X m0 A0 S0 w0 W a0 p m A listed a w) {k i:Nat} {o:Oper} (hn:Now C run f ops L F Sx V listed k i o) (hp:BX C f o = true) :
  GA C run f ops L h F Sx V g0 X m0 A0 S0 w0 W a0 listed a w i:=by
 intro K Q hK
 have hl:CC C f o = true:=by simp [CC,hp]
 have hhk:=hs.notal hn.pos hn.op (Jc hp)
 have hkl:k < L.length:=(List.getElem?_eq_some_iff.1 hn.pos).1
 have hpus:∀ j,p≤j→j < k→pu C f ops L j:=by
  intro j hj hjk
  obtain ⟨x,oj,h1,h2⟩:=hs.op (show j < L.length by omega)
  rcases hn.r1 j x oj hjk h1 h2 with h3 | ⟨⟨h3,_⟩ | h3 | ⟨_,_,h3⟩,_⟩
  ·exact hi.i2 j hj h3
  ·refine ⟨x,oj,h1,h2,?_⟩
   simp only [CC,Bool.or_eq_true] at h3
   rcases h3 with h3 | h3
   ·exact h3
   ·have:=(hs.al j x oj h1 h2).2 h3
    have:=hi.hp; omega
  ·exact h3.pu
  ·rw [hl] at h3; cases h3
 have hst0:=(hs.tr k i o hn.pos hn.op).1
 have hst:CS C run f ops (F k) (Sx p) o (V k) (Sx p):=by
  rcases hi.ge hhk hn.not with hpk | ⟨hlt,x,oc,hc1,hc2,_,hc3⟩
  ·have hSk:Sx k = Sx p:=hs.store k hpk hpus
   have hSk1:Sx (k + 1) = Sx p:=by rw [hst0.quiet hp,hSk]
   rw [hSk,hSk1] at hst0
   exact hst0
  ·rw [hn.pos] at hc1; injection hc1 with hc1; subst hc1
   rw [hn.op] at hc2; injection hc2 with hc2; subst hc2
   refine hc3 p (by omega) hi.pn fun j y oj g1 g2 g3 g4=>?_
   rcases hi.i1 (by omega) j g2 with ⟨y',hy,hd⟩ | hL | hlh
   rotate_left 2
   ·omega
   ·rw [g3] at hy; injection hy with hy; subst hy
    cases hb:((Eb ops.toList []).getD y 0).testBit i with
    | false=>exact .inr rfl
    | true=>
     exact absurd ⟨i,hn.pos,H9 hi.closed y oj i g4 (hi.closed y oj g4 hd) hb⟩ hn.not
   ·exact .inl (hL.pure g3 g4)
 have hf:FR X m A (Sx p) w (mask (o.looksAt ops) (F k)) a:=by
  refine ⟨by simp [mask]; rw [hs.len k (by omega)]; exact hi.size,fun t v cv h1 h2=>?_⟩
  rw [G3,Option.map_eq_some_iff] at h1
  obtain ⟨v0,h0,rfl⟩:=h1
  split
  ·rename_i hm
   refine hi.i5 k (by omega) hpus t v0 cv (fun j hj ⟨x,oj,q1,q2,q3⟩=>?_) (fun j hj ⟨x,oj,q1,q2,q3⟩=>?_) h0 h2
   ·rcases hn.r1 j x oj hj q1 q2 with q4 | ⟨_,q4⟩
    ·exact q4
    ·exact absurd hm ((Ft q4).1 t q3)
   ·rcases Nat.lt_or_ge k j with q | q
    ·rcases hn.r2 j x oj q q1 q2 with q4 | ⟨_,q4⟩
     ·exact q4
     ·exact absurd hm ((Ft q4).2.2 t q3)
    ·have:j = k:=by omega
     subst this; exact hn.not
  ·exact .non _
 refine OB hN hrun hi.rel (hG _ _ _ _ hi.ext) hst hf (fun t ht=>by rw [G3]; simp [ht]) hn.op (fun m' A' w' cv k1 k2 k3=>hK p m' A' _ w' ?_)
 have hmm:m' = m:=by
  funext b
  rcases Nat.lt_or_ge b (Sx p).length with q | q
  ·obtain ⟨B',q1,q2,q3,q4⟩:=k2.st b _ (List.getElem?_eq_getElem q)
   rw [List.getElem?_eq_getElem q] at q1; injection q1 with q1
   exact q4 (by rw [q1])
  ·have e1:m b = none:=by
    cases hmb:m b with
    | none=>rfl
    | some x=>have:=hi.rel.lt hmb; omega
   have e2:m' b = none:=by
    cases hmb:m' b with
    | none=>rfl
    | some x=>have:=k1.lt hmb; omega
   rw [e1,e2]
 subst hmm
 exact ⟨hi.hp,hi.pn,fun q k' hk'=>(hi.i1 q k' hk').imp (fun h=>(Db hs hn.pos hn.lt).2 (.inl h)) id,fun k' hk' hd=>by
   rcases (Db hs hn.pos hn.lt).1 hd with q | q
   ·exact hi.i2 k' hk' q
   ·subst q; exact ⟨i,o,hn.pos,hn.op,hp⟩,
  k1,hi.ext.trans k2,fun k' hk' hd=>hi.i4 k' hk' (fun q=>hd ((Db hs hn.pos hn.lt).2 (.inl q))),
  JC hs hi hn hl (fun v cv q=>q.mono hi.rel k2) k3,by simp only [hi.size]; cases o.dst <;> simp [Act.put],by rw [FV]; exact hi.defers,hi.keeps.put o.dst cv (hW i o hn.op),hn.closed hi,by simp [hi.lsize]⟩
theorem U0 {G:World→Prop} (hN:Di C.P) (hrun:Gt C.P g0 G run) (hG:∀ m A S w,Ext m0 A0 S0 w0 m A S w→G w) (hW:∀ (i:Nat) (o:Oper),ops[i]? = some o→∀ t,o.dst = some t→t∈W)
  (hs:Dx C run f ops L h F Sx V) (hi:F4 C run f ops L h F Sx V g0 X m0 A0 S0 w0 W a0 p m A listed a w) {k i:Nat} {o:Oper} (hn:Now C run f ops L F Sx V listed k i o) (hp:CC C f o = false) :
  GA C run f ops L h F Sx V g0 X m0 A0 S0 w0 W a0 listed a w i:=by
 intro K Q hK
 have ha:GX o = false:=by
  simp only [CC,Bool.or_eq_false_iff] at hp; exact hp.2
 have hhk:=hs.notal hn.pos hn.op ha
 have hnc:¬ FO C run f ops L F Sx V k:=fun hc=>by
  have:=hc.pure hn.pos hn.op
  simp [CC,this] at hp
 have hpk:p≤k:=(hi.ge hhk hn.not).elim id fun ⟨_,hc⟩=>absurd hc hnc
 have hkl:k < L.length:=(List.getElem?_eq_some_iff.1 hn.pos).1
 have hbefore:∀ (j x:Nat) (oj:Oper),j < k→L[j]? = some x→ops[x]? = some oj→dn L listed j∨((FO C run f ops L F Sx V j∨(GX oj = true∧NJ Sx k))∧G5 ops oj o = false):=by
  intro j x oj hj h1 h2
  rcases hn.r1 j x oj hj h1 h2 with h3 | ⟨⟨_,h3⟩ | h3 | ⟨h3,h3',_⟩,h4⟩
  ·exact .inl h3
  ·rw [hp] at h3; cases h3
  ·exact .inr ⟨.inl h3,h4⟩
  ·exact .inr ⟨.inr ⟨h3,h3'⟩,h4⟩
 have hafter:∀ j,k < j→¬ dn L listed j:=by
  intro j hj hd
  obtain ⟨x,h1,hd'⟩:=hd
  have hx:x < ops.size:=(hs.mem x).1 (List.mem_of_getElem? h1)
  rcases hn.r2 j x ops[x] hj h1 (Array.getElem?_eq_getElem hx) with h3 | ⟨⟨h3,_⟩ | h3 | ⟨h3,_⟩,_⟩
  ·exact h3 ⟨x,h1,hd'⟩
  ·rw [hp] at h3; cases h3
  ·exact absurd h3 hnc
  ·rw [ha] at h3; cases h3
 have hpus:∀ j,p≤j→j < k→pu C f ops L j:=fun j hj hjk=>by
  obtain ⟨x,oj,h1,h2⟩:=hs.op (show j < L.length by omega)
  rcases hbefore j x oj hjk h1 h2 with h3 | ⟨h3 | ⟨h3,_⟩,_⟩
  ·exact hi.i2 j hj h3
  ·exact h3.pu
  ·have:=(hs.al j x oj h1 h2).2 h3
   have:=hi.hp; omega
 have hSk:Sx k = Sx p:=hs.store k hpk hpus
 have hst:=(hs.tr k i o hn.pos hn.op).1
 rw [hSk] at hst
 have hgt:∀ j,k≤j→∀ t,wrs ops L j t→¬ dn L listed j:=fun j hj t _=>by
  rcases Nat.lt_or_ge k j with q | q
  ·exact hafter j q
  ·have:j = k:=by omega
   subst this; exact hn.not
 have hf:FR X m A (Sx p) w (mask (o.looksAt ops) (F k)) a:=by
  refine ⟨by simp [mask]; rw [hs.len k (by omega)]; exact hi.size,fun t v cv h1 h2=>?_⟩
  rw [G3,Option.map_eq_some_iff] at h1
  obtain ⟨v0,h0,rfl⟩:=h1
  split
  ·rename_i hm
   refine hi.i5 k (by omega) hpus t v0 cv (fun j hj ⟨x,oj,q1,q2,q3⟩=>?_) (fun j hj=>hgt j hj t) h0 h2
   rcases hbefore j x oj hj q1 q2 with q4 | ⟨_,q4⟩
   ·exact q4
   ·exact absurd hm ((Ft q4).1 t q3)
  ·exact .non _
 refine OB hN hrun hi.rel (hG _ _ _ _ hi.ext) hst hf (fun t ht=>by rw [G3]; simp [ht]) hn.op (fun m' A' w' cv k1 k2 k3=>hK (k + 1) m' A' _ w' ?_)
 have hdn:∀ j,dn L (listed.setIfInBounds i true) j→j < k + 1:=fun j hj=>by
  rcases (Db hs hn.pos hn.lt).1 hj with q | q
  ·rcases Nat.lt_or_ge k j with q' | q'
   ·exact absurd q (hafter j q')
   ·omega
  ·omega
 refine ⟨by omega,by omega,fun _ k' hk'=>?_,fun k' hk' hd=>by have:=hdn k' hd; omega,k1,hi.ext.trans k2,fun k' hk' hd=>?_,fun i' hin hpu t v cv' hp1 hp2 hF hcv=>?_,
  by simp only [hi.size]; cases o.dst <;> simp [Act.put],by rw [FV]; exact hi.defers,hi.keeps.put o.dst cv (hW i o hn.op),hn.closed hi,by simp [hi.lsize]⟩
 ·rcases Nat.lt_or_ge k' k with q | q
  ·obtain ⟨x,oj,h1,h2⟩:=hs.op (show k' < L.length by omega)
   rcases hbefore k' x oj q h1 h2 with h3 | ⟨h3 | ⟨h3,_⟩,_⟩
   ·exact .inl ((Db hs hn.pos hn.lt).2 (.inl h3))
   ·exact .inr (.inl h3)
   ·exact .inr (.inr ((hs.al k' x oj h1 h2).2 h3))
  ·exact .inl ((Db hs hn.pos hn.lt).2 (.inr (by omega)))
 ·obtain ⟨x,oj,h1,h2⟩:=hs.op (show k' < L.length by have:=hs.hL; omega)
  rcases hbefore k' x oj (by omega) h1 h2 with h3 | ⟨h3 | ⟨_,h3⟩,_⟩
  ·exact absurd ((Db hs hn.pos hn.lt).2 (.inl h3)) hd
  ·have:=(hs.al k' x oj h1 h2).1 hk'
   rw [Jc (h3.pure h1 h2)] at this; cases this
  ·obtain ⟨g1,g2⟩:=hi.i4 k' hk' fun q=>hd ((Db hs hn.pos hn.lt).2 (.inl q))
   obtain ⟨t,z,_,_,_,_,_,e6⟩:=hs.alloc hk' h1 h2
   have hB:(Sx (k' + 1))[(Sx k').length]? = some ⟨z.length,[z],z.all AC⟩:=by rw [e6]; simp
   rw [hB] at g2 ⊢
   have hB':(Sx (k + 1))[(Sx k').length]? = some ⟨z.length,[z],z.all AC⟩:=h3 _ _ (by rw [hSk]; exact g2)
   refine ⟨?_,hB'⟩
   obtain ⟨B',q1,_,_,q4⟩:=k2.st _ _ g2
   rw [hB'] at q1; injection q1 with q1
   rw [q4 (by rw [← q1]),g1]
 ·by_cases hd:o.dst = some t
  ·have hki:k < i':=by
    rcases Nat.lt_or_ge k i' with q | q
    ·exact q
    ·exact absurd ((Db hs hn.pos hn.lt).2 (.inr rfl)) (hp2 k q ⟨i,o,hn.pos,hn.op,hd⟩)
   rw [hs.stay i' hki hin (fun j hj hj' hw=>by have:=hdn j (hp1 j hj' hw); omega),(hs.tr k i o hn.pos hn.op).2,hd] at hF
   simp only [DG] at hF
   have ht:t < (F k).length:=by have:=(List.getElem?_eq_some_iff.1 hF).1; simpa using this
   rw [List.getElem?_set_self ht] at hF
   injection hF with hF; subst hF
   have ht':t < a.tmps.size:=by rw [← hi.size,← hs.len k (by omega)]; exact ht
   rw [hd] at hcv
   simp [Act.put,ht'] at hcv
   subst hcv; exact k3
  ·have hcv':a.tmps[t]? = some cv':=by
    cases hdd:o.dst with
    | none=>rw [hdd] at hcv; exact hcv
    | some d=>
     rw [hdd] at hcv hd
     simp only [Act.put] at hcv
     rwa [Array.getElem?_setIfInBounds_ne (fun e=>hd (by rw [e]))] at hcv
   have hnk:¬ wrs ops L k t:=fun ⟨x,ok,h1,h2,h3⟩=>by
    rw [hn.pos] at h1; injection h1 with h1; subst h1
    rw [hn.op] at h2; injection h2 with h2; subst h2
    exact hd h3
   have hold:∀ j,wrs ops L j t→dn L (listed.setIfInBounds i true) j→dn L listed j:=fun j hw hj=>by
    rcases (Db hs hn.pos hn.lt).1 hj with q | q
    ·exact q
    ·subst q; exact absurd hw hnk
   rcases Nat.lt_or_ge k i' with q | q
   ·have e1:(F i')[t]? = (F k)[t]?:=hs.stay i' (by omega) hin (fun j hj hj' hw=>by
     rcases Nat.lt_or_ge k j with q1 | q1
     ·have:=hdn j (hp1 j hj' hw); omega
     ·have:j = k:=by omega
      subst this; exact hnk hw)
    rw [e1] at hF
    exact (hi.i5 k (by omega) hpus t v cv' (fun j hj hw=>hold j hw (hp1 j (by omega) hw)) (fun j hj=>hgt j hj t) hF hcv').mono hi.rel k2
   ·exact (hi.i5 i' hin (fun j hj hj'=>hpus j hj (by omega)) t v cv' (fun j hj hw=>hold j hw (hp1 j hj hw)) (fun j hj hw hdj=>hp2 j hj hw ((Db hs hn.pos hn.lt).2 (.inl hdj))) hF hcv').mono hi.rel k2
theorem XV (hS0:S0.length≤(Sx 0).length) (hW:∀ (i:Nat) (o:Oper),ops[i]? = some o→∀ t,o.dst = some t→t∈W)
  (hs:Dx C run f ops L h F Sx V) (hi:F4 C run f ops L h F Sx V g0 X m0 A0 S0 w0 W a0 p m A listed a w) {k i:Nat} {o:Oper} (hn:Now C run f ops L F Sx V listed k i o) (hp:GX o = true) :
  GA C run f ops L h F Sx V g0 X m0 A0 S0 w0 W a0 listed a w i:=by
 intro K Q hK
 have hkh:k < h:=(hs.al k i o hn.pos hn.op).2 hp
 have hhp:=hi.hp
 have hl:CC C f o = true:=by simp [CC,hp]
 obtain ⟨t,z,e1,e2,e3,e4,e5,e6⟩:=hs.alloc hkh hn.pos hn.op
 obtain ⟨zv,hrun,c1,c2,c3⟩:=Uj (P:=C.P) e3 e4 w
 have hbox:(Sx p)[(Sx k).length]? = some ⟨z.length,[z],z.all AC⟩:=by
  rw [(hi.i4 k hkh hn.not).2,e6]; simp
 have hnone:=(hi.i4 k hkh hn.not).1
 have hwp:∀ K:Act→World→Prop,K (a.put o.dst (.pointer (some ⟨w.heap.size,0,none⟩))) (w.alloc (.cells zv.cells t))→wpOp C.P ops Q i K a w:=by
  intro K hK
  unfold wpOp
  rw [hn.op]
  dsimp only
  rw [if_pos (by simp [Region.wanted,e2])]
  refine .inl ?_
  unfold Oper.wp
  simp only [execOp,e1,Sem.run_bind,hrun,Result.andThen_ok,Sem.run_pure]
  exact hK
 refine hwp K (hK p (BB m (Sx k).length (w.heap.size,0)) A _ _ ?_)
 have hrel:=hi.rel.late hnone hbox zv.cells t (by simp) (by simpa using c2) (by dsimp only; omega) (by simp) (by simp [c1]) (fun i e j a hi' hj=>by
  cases i with
  | zero=>
   simp at hi'; subst hi'
   obtain ⟨u,u1,u2⟩:=c3 X m A (Sx p) w j a hj
   exact ⟨u,by simpa using u1,u2⟩
  | succ i=>simp at hi')
 have hlen:S0.length≤(Sx k).length:=by
  obtain ⟨E,hE,_⟩:=hs.grow (k:=0) k (by omega) (by omega)
  rw [hE]; simp; omega
 refine ⟨hi.hp,hi.pn,fun q k' hk'=>(hi.i1 q k' hk').imp (fun h=>(Db hs hn.pos hn.lt).2 (.inl h)) id,fun k' hk' hd=>?_,hrel,hi.ext.late hlen _,fun k' hk' hd=>?_,JC hs hi hn hl (fun v cv q=>q.late hi.rel hnone _) ?_,
  by simp only [hi.size]; cases o.dst <;> simp [Act.put],by rw [FV]; exact hi.defers,hi.keeps.put o.dst _ (hW i o hn.op),hn.closed hi,by simp [hi.lsize]⟩
 ·rcases (Db hs hn.pos hn.lt).1 hd with q | q
  ·exact hi.i2 k' hk' q
  ·omega
 ·have h1:¬ dn L listed k':=fun q=>hd ((Db hs hn.pos hn.lt).2 (.inl q))
  have h2:k'≠k:=fun q=>hd ((Db hs hn.pos hn.lt).2 (.inr q))
  have h3:(Sx k').length≠(Sx k).length:=by
   rcases Nat.lt_or_ge k' k with q | q
   ·obtain ⟨E,hE,hE'⟩:=hs.grow (k:=k') k (by omega) (by omega)
    rw [hE]; simp; intro e; simp [e] at hE'; omega
   ·obtain ⟨E,hE,hE'⟩:=hs.grow (k:=k) k' (by omega) (by omega)
    rw [hE]; simp; intro e; simp [e] at hE'; omega
  refine ⟨?_,(hi.i4 k' hk' h1).2⟩
  unfold BB
  rw [if_neg h3]
  exact (hi.i4 k' hk' h1).1
 ·rw [e5]
  exact .bp _ _ _ _ _ _ ⟨z.length,[z],z.all AC⟩ hbox (by simp) (fun _=>⟨w.heap.size,0,by simp [BB],by omega,by simp,by simp⟩)
theorem iY {G:World→Prop} (hN:Di C.P) (hrun:Gt C.P g0 G run) (hG:∀ m A S w,Ext m0 A0 S0 w0 m A S w→G w) (hS0:S0.length≤(Sx 0).length) (hW:∀ (i:Nat) (o:Oper),ops[i]? = some o→∀ t,o.dst = some t→t∈W)
  (hs:Dx C run f ops L h F Sx V) (hi:F4 C run f ops L h F Sx V g0 X m0 A0 S0 w0 W a0 p m A listed a w) {i:Nat} (hr:i∈Region.ready .any ops listed):GA C run f ops L h F Sx V g0 X m0 A0 S0 w0 W a0 listed a w i:=by
 obtain ⟨k,o,hn⟩:=hi.now hs hr
 by_cases h1:BX C f o = true
 ·exact SG hN hrun hG hW hs hi hn h1
 ·by_cases h2:GX o = true
  ·exact XV hS0 hW hs hi hn h2
  ·exact U0 hN hrun hG hW hs hi hn (by simp [CC,h1,h2])
theorem F4.done (hs:Dx C run f ops L h F Sx V) (hi:F4 C run f ops L h F Sx V g0 X m0 A0 S0 w0 W a0 p m A listed a w) (hr:Region.ready .any ops listed = []):At g0 X m0 A0 S0 w0 W a0 (F L.length) (Sx L.length) m A a w:=by
 have hall:∀ i,i < ops.size→listed.getD i false = true:=by
  intro i
  induction i using Nat.strongRecOn with
  | _ i ih=>
   intro hlt
   cases hd:listed.getD i false with
   | true=>rfl
   | false=>
    have:i∈Region.ready .any ops listed:=by
     rw [mem_ready]
     have hlt':i < listed.size:=by rw [hi.lsize]; exact hlt
     refine ⟨by simp [hlt'] at hd ⊢; exact hd,ops[i],Array.getElem?_eq_getElem hlt,fun e he hb=>?_⟩
     have:=hs.edges i ops[i] (Array.getElem?_eq_getElem hlt) e he hb
     exact ih e.on this (by omega)
    rw [hr] at this; cases this
 have hdn:∀ k,k < L.length→dn L listed k:=fun k hk=>by
  obtain ⟨i,o,h1,h2⟩:=hs.op hk
  exact ⟨i,h1,hall i (Array.getElem?_eq_some_iff.1 h2).1⟩
 have hpus:∀ j,p≤j→j < L.length→pu C f ops L j:=fun j hj hjl=>hi.i2 j hj (hdn j hjl)
 have hS:=hs.store L.length hi.pn hpus
 rw [hS]
 refine ⟨hi.rel,hi.ext,⟨by rw [hs.len _ (Nat.le_refl _)]; exact hi.size,fun t v cv h1 h2=>?_⟩,hi.defers,hi.keeps⟩
 exact hi.i5 L.length (Nat.le_refl _) hpus t v cv (fun j hj _=>hdn j hj) (fun j hj ⟨x,o,q1,_⟩=>by have:=(List.getElem?_eq_some_iff.1 q1).1; omega) h1 h2
theorem OC {G:World→Prop} (hN:Di C.P) (hrun:Gt C.P g0 G run) (hG:∀ m A S w,Ext m0 A0 S0 w0 m A S w→G w) (hS0:S0.length≤(Sx 0).length) (hW:∀ (i:Nat) (o:Oper),ops[i]? = some o→∀ t,o.dst = some t→t∈W)
  (hs:Dx C run f ops L h F Sx V) {Q:Exit→Act→World→Prop} (hQ:∀ m A a w,At g0 X m0 A0 S0 w0 W a0 (F L.length) (Sx L.length) m A a w→Q .normal a w) :
  ∀ (fuel:Nat) (listed:Array Bool) (a:Act) (w:World),(∃ p m A,F4 C run f ops L h F Sx V g0 X m0 A0 S0 w0 W a0 p m A listed a w)→listed.toList.count false≤fuel→wpAny C.P .any ops Q fuel listed a w
 | 0,listed,a,w,⟨p,m,A,hi⟩,hc=>by
  have hr:Region.ready .any ops listed = []:=by
   rw [List.eq_nil_iff_forall_not_mem]
   intro i hmem
   obtain ⟨h0,o,ho,_⟩:=mem_ready.1 hmem
   have hlt':i < listed.size:=by rw [hi.lsize]; exact (Array.getElem?_eq_some_iff.1 ho).1
   have:false∈listed.toList:=by
    simp [hlt'] at h0
    rw [← h0]; simp
   have:=List.count_pos_iff.2 this
   omega
  exact ⟨hr,hQ m A a w (hi.done hs hr)⟩
 | fuel + 1,listed,a,w,⟨p,m,A,hi⟩,hc=>by
  refine ⟨fun hr=>hQ m A a w (hi.done hs hr),fun i hmem=>?_⟩
  refine iY hN hrun hG hS0 hW hs hi hmem _ _ fun p' m' A' a' w' hi'=>OC hN hrun hG hS0 hW hs hQ fuel _ a' w' ⟨p',m',A',hi'⟩ ?_
  obtain ⟨h0,o,ho,_⟩:=mem_ready.1 hmem
  have hlt':i < listed.size:=by rw [hi.lsize]; exact (Array.getElem?_eq_some_iff.1 ho).1
  have he:listed[i] = false:=by simpa [hlt'] using h0
  have hcnt:(listed.setIfInBounds i true).toList.count false = listed.toList.count false - 1:=by
   rw [Array.toList_setIfInBounds,List.count_set (by simpa using hlt')]
   simp [he]
  omega
end
theorem C7:∀ (l:List Nat) {p q i j:Nat},l.Nodup→p < q→l[p]? = some i→l[q]? = some j→j∈D8 l i
 | [],_,_,_,_,_,_,hp,_=>by simp at hp
 | k::r,p,q,i,j,hn,hpq,hp,hq=>by
  rw [List.nodup_cons] at hn
  obtain ⟨q,rfl⟩:∃ x,q = x + 1:=⟨q - 1,by omega⟩
  simp only [List.getElem?_cons_succ] at hq
  simp only [D8]
  by_cases e:k = i
  ·rw [if_pos e]; exact List.mem_of_getElem? hq
  ·rw [if_neg e]
   cases p with
   | zero=>simp at hp; exact absurd hp e
   | succ p=>exact C7 (p:=p) (q:=q) r hn.2 (by omega) (by simpa using hp) hq
theorem J5 {fr:List AV}:∀ {l:List (Nat×Nat)},apL fr l = true→∀ x y,(x,y)∈l→EC (fr.getD x .non) (fr.getD y .non) = true
 | [],_,_,_,h=>by cases h
 | (a,b)::r,h,x,y,hm=>by
  simp only [apL,Bool.and_eq_true] at h
  rcases List.mem_cons.1 hm with e | e
  ·injection e with e1 e2; subst e1; subst e2; exact h.1
  ·exact J5 h.2 x y e
theorem O2 {C:Cfg} {run:FuncId→List AV→St→Option (AV×St)} {f:FuncId} {fr:List AV} {S S1 S':St} {o:Oper} {v:AV} {x:Nat} (hl:Ns o = some x)
  (hb:∀ b i o' n L',fr.getD x und = .bp b i o' n L'→∀ B,S[b]? = some B→S'[b]? = some B) (h:aop C run f fr S o = some (v,S1)):aop C run f fr S' o = some (v,S'):=by
 obtain ⟨dst,op,type,pos,after,guard⟩:=o
 unfold Ns at hl
 dsimp only at hl
 split at hl <;> try (cases hl; done)
 rename_i t x'
 injection hl with hl; subst hl
 have hp:BY S' (fr.getD x' und) = BY S (fr.getD x' und)∨BY S (fr.getD x' und) = none:=by
  cases hx:fr.getD x' und <;> try exact .inl rfl
  rename_i b i o' n L'
  cases hS:S[b]? with
  | none=>right; simp only [BY,hS]
  | some B=>left; simp only [BY,hS,hb b i o' n L' hx B hS]
 simp only [aop,aev] at h ⊢
 split at h <;> try (cases h; done)
 split at h
 ·rename_i ha
  rw [if_pos ha]
  unfold ldA at h ⊢
  rcases hp with hp | hp
  ·rw [hp]; exact Ib h
  ·rw [hp] at h; simp at h
 ·rename_i ha
  rw [if_neg ha]
  unfold ld1 at h ⊢
  rcases hp with hp | hp
  ·rw [hp]; exact Ib h
  ·rw [hp] at h; simp at h
theorem It {C:Cfg} {f:FuncId} {ops:Array Oper} {j:Nat} {oj:Oper} (h2:ops[j]? = some oj) (h:GT_ C f ops j = true):∃ y,LC oj = some y∧∀ (q:Nat) (oq:Oper),q∈j::D8 (BA C f ops) j→ops[q]? = some oq→oq.dst≠some y:=by
 have hdef:∀ (i:Nat) (o:Oper),ops[i]? = some o→ops.getD i default = o:=fun i o h2=>by simp [Array.getD_eq_getD_getElem?,h2]
 unfold GT_ at h
 rw [hdef j oj h2] at h
 split at h <;> try (cases h; done)
 rename_i y hy
 refine ⟨y,hy,fun q oq hq ho=>?_⟩
 unfold U2 at h
 have:=List.all_eq_true.1 h q hq
 rw [hdef q oq ho] at this
 simpa using this
theorem MH {C:Cfg} {run:FuncId→List AV→St→Option (AV×St)} {f:FuncId} {fr:List AV} {S S':St} {o:Oper} {v:AV} {y:Nat} (hg:LC o = some y) (h:aop C run f fr S o = some (v,S')) :
  ∀ b,(∀ b' i n L fl,fr.getD y und = .bsl b' i n L fl→b≠b')→∀ B,S[b]? = some B→S'[b]? = some B:=by
 intro b hy B hB
 have app:∀ E,(S++E)[b]? = some B:=fun E=>by
  rw [List.getElem?_append_left (List.getElem?_eq_some_iff.1 hB).1]; exact hB
 have put:∀ b' i n L fl B',fr.getD y und = .bsl b' i n L fl→(S.set b' B')[b]? = some B:=fun b' i n L fl B' e=>by
  rw [List.getElem?_set_ne (fun e'=>hy b' i n L fl e e'.symm)]; exact hB
 obtain ⟨dst,op,type,pos,after,guard⟩:=o
 cases op <;> simp only [LC,reduceCtorEq] at hg
 rename_i c
 obtain ⟨callee,args,ats⟩:=c
 dsimp only at hg
 split at hg <;> try (cases hg; done)
 rename_i y' rest ha
 injection hg with hg; subst hg
 simp only [aop,ha,List.map_cons,G9] at h
 split at h <;> try (cases h; done)
 rename_i t t' s x e1 e2 e3
 injection e3 with e3 e4
 rw [show aev fr (.tmp y') = fr.getD y' und from rfl] at e3
 split at h <;> try (cases h; done)
 split at h <;> try (cases h; done)
 split at h <;> try (cases h; done)
 split at h <;> try (cases h; done)
 unfold FC at h
 split at h
 ·split at h
  ·injection h with h; injection h with _ h; subst h; exact hB
  ·repeat' (split at h)
   all_goals first | (cases h; done) | (injection h with h; injection h with _ h; subst h; exact hB)
  ·cases h
 ·split at h <;> try (cases h; done)
  split at h
  ·split at h <;> try (cases h; done)
   injection h with h; injection h with _ h; subst h; exact app _
  ·rename_i q
   repeat' (split at h)
   all_goals first
    | (cases h; done)
    | (injection h with h; injection h with _ h; subst h; first | exact app _ | exact put _ _ _ _ _ _ e3)
  ·cases h
theorem Xx {C:Cfg} {run:FuncId→List AV→St→Option (AV×St)} {f:FuncId} {fr:List AV} {S S':St} {o:Oper} {v:AV} {y:Nat} (hg:LC o = some y) (hy:∀ b i n L fl,fr.getD y und≠.bsl b i n L fl) (h:aop C run f fr S o = some (v,S')) :
  ∀ (b:Nat) B,S[b]? = some B→S'[b]? = some B:=fun b B hB=>MH hg h b (fun b' i n L fl e=>absurd e (hy b' i n L fl)) B hB
theorem Uh {C:Cfg} {run:FuncId→List AV→St→Option (AV×St)} {f:FuncId} {fr fe:List AV} {S S':St} {o:Oper} {v:AV} {x y b i o' n L':Nat} (hg:LC o = some y) (hx:fe.getD x .non = .bp b i o' n L') (hap:EC (fe.getD x .non) (fe.getD y .non) = true) (hys:fe[y]? = fr[y]?)
  (h:aop C run f fr S o = some (v,S')∨S' = S):∀ B,S[b]? = some B→S'[b]? = some B:=by
 rcases h with h | h
 ·refine MH hg h b fun b' i2 n2 L2 fl e=>?_
  rw [List.getD_eq_getElem?_getD,List.getD_eq_getElem?_getD,hys] at hap
  rw [List.getD_eq_getElem?_getD] at e hx
  rw [hx] at hap
  cases hc:fr[y]? with
  | none=>rw [hc] at e; simp [und] at e
  | some u=>
   rw [hc] at e hap
   simp only [Option.getD_some] at e hap
   subst e
   simpa [EC] using hap
 ·subst h; exact fun _ h=>h
theorem Xw {C:Cfg} {run:FuncId→List AV→St→Option (AV×St)} {f:FuncId} {fr fe:List AV} {S S':St} {o:Oper} {v:AV} {y:Nat} (hg:LC o = some y) (hap:EC (fe.getD y .non) (fe.getD y .non) = true) (hys:fe[y]? = fr[y]?)
  (h:aop C run f fr S o = some (v,S')∨S' = S):∀ (b:Nat) B,S[b]? = some B→S'[b]? = some B:=by
 rcases h with h | h
 ·refine Xx hg (fun b i n L fl e=>?_) h
  rw [List.getD_eq_getElem?_getD,hys] at hap
  rw [List.getD_eq_getElem?_getD] at e
  cases hc:fr[y]? with
  | none=>rw [hc] at e; simp [und] at e
  | some u=>
   rw [hc] at e hap
   simp only [Option.getD_some] at e hap
   subst e
   simp [EC] at hap
 ·subst h; exact fun _ _ h=>h
theorem U3 {C:Cfg} {run:FuncId→List AV→St→Option (AV×St)} {f:FuncId} {fr:List AV} {S S':St} {o:Oper} {v:AV} {y:Nat} (hl:Pq o = some y) (h:aop C run f fr S o = some (v,S')) :
  ∀ b,(∀ b' i o' n L',fr.getD y und = .bp b' i o' n L'→b≠b')→S'[b]? = S[b]?:=by
 intro b hb
 obtain ⟨dst,op,type,pos,after,guard⟩:=o
 unfold Pq at hl
 dsimp only at hl
 split at hl <;> try (cases hl; done)
 rename_i t y' x
 injection hl with hl; subst hl
 simp only [aop] at h
 rw [show aev fr (.tmp y') = fr.getD y' und from rfl] at h
 split at h <;> try (cases h; done)
 rw [Option.map_eq_some_iff] at h
 obtain ⟨S2,h1,h2⟩:=h
 injection h2 with _ h2; subst h2
 unfold stA at h1
 split at h1 <;> try (cases h1; done)
 rename_i b' i o' n L' hy
 split at h1 <;> try (cases h1; done)
 split at h1 <;> try (cases h1; done)
 split at h1 <;> try (cases h1; done)
 injection h1 with h1; subst h1
 exact List.getElem?_set_ne fun e=>hb b' i o' n L' hy e.symm
theorem QH {C:Cfg} {run:FuncId→List AV→St→Option (AV×St)} {f:FuncId} {ops:Array Oper} {F:Nat→List AV} {Sx:Nat→St} {V:Nat→AV}
  (tr:∀ (k i:Nat) (o:Oper),(BA C f ops)[k]? = some i→ops[i]? = some o→CS C run f ops (F k) (Sx k) o (V k) (Sx (k + 1))∧F (k + 1) = DG (F k) o.dst (V k))
  (hop:∀ k,k < (BA C f ops).length→∃ i o,(BA C f ops)[k]? = some i∧ops[i]? = some o) :
  ∀ (t a b:Nat),a≤b→b≤(BA C f ops).length→(∀ (q j:Nat) (oj:Oper),a≤q→q < b→(BA C f ops)[q]? = some j→ops[j]? = some oj→oj.dst≠some t)→(F b)[t]? = (F a)[t]?:=by
 intro t a b hab
 induction hab with
 | refl=>intro _ _; rfl
 | step hab ih=>
  rename_i q
  intro hq hw
  obtain ⟨x,oj,k1,k2⟩:=hop q (by omega)
  rw [(tr q x oj k1 k2).2,QT (hw q x oj hab (by omega) k1 k2)]
  exact ih (by omega) fun q' j oj g1 g2=>hw q' j oj g1 (by omega)
theorem Lh {C:Cfg} {run:FuncId→List AV→St→Option (AV×St)} {f:FuncId} {ops:Array Oper} {ρ:Type} {k:Option ρ} {r:ρ} {q:Nat} {fr:List AV} {S:St}:∀ {prs:List (Nat×Nat)},Xc C run f ops prs q fr S k = some r →
  k = some r∧∀ i,(q,i)∈prs→∃ d v,(ops.getD i default).dst = some d∧fr[d]? = some v∧aop C run f fr S (ops.getD i default) = some (v,S)
 | [],h=>⟨h,fun i hi=>by cases hi⟩
 | p::prs,h=>by
  simp only [Xc] at h
  by_cases hq:p.1 = q
  ·have hb:Nat.beq p.1 q = true:=by rw [hq]; exact Nat.beq_refl q
   rw [hb,cond_true] at h
   split at h <;> try (cases h; done)
   rename_i d hd
   split at h <;> try (cases h; done)
   rename_i v hv
   unfold Zx at h
   split at h <;> try (cases h; done)
   rename_i hs
   obtain ⟨h1,h2⟩:=Lh h
   refine ⟨h1,fun i hi=>?_⟩
   rcases List.mem_cons.1 hi with e | hi
   ·subst e; exact ⟨d,v,hd,hv,hs⟩
   ·exact h2 i hi
  ·have hb:Nat.beq p.1 q = false:=by
    cases e:Nat.beq p.1 q with
    | false=>rfl
    | true=>exact absurd (Nat.eq_of_beq_eq_true e) hq
   rw [hb,cond_false] at h
   obtain ⟨h1,h2⟩:=Lh h
   refine ⟨h1,fun i hi=>?_⟩
   rcases List.mem_cons.1 hi with e | hi
   ·subst e; exact absurd rfl hq
   ·exact h2 i hi
theorem Ut {C:Cfg} {run:FuncId→List AV→St→Option (AV×St)} {f:FuncId} {ops:Array Oper} {ρ:Type} {k:List AV→St→Option ρ} {r:ρ} {prs:List (Nat×Nat)}:∀ (l:List Nat) (fr:List AV) (S:St),Sl C run f ops prs k l fr S = some r →
  ∃ (F:Nat→List AV) (Sx:Nat→St) (V:Nat→AV),F 0 = fr∧Sx 0 = S∧k (F l.length) (Sx l.length) = some r∧∀ q j,l[q]? = some j→(ops.getD j default).guard = none∧aop C run f (F q) (Sx q) (ops.getD j default) = some (V q,Sx (q + 1))∧F (q + 1) = DG (F q) (ops.getD j default).dst (V q) ∧
   ∀ i,(j,i)∈prs→∃ d v,(ops.getD i default).dst = some d∧(F (q + 1))[d]? = some v∧aop C run f (F (q + 1)) (Sx (q + 1)) (ops.getD i default) = some (v,Sx (q + 1))
 | [],fr,S,h=>⟨fun _=>fr,fun _=>S,fun _=>.non,rfl,rfl,h,fun i o ho=>by simp at ho⟩
 | j::rest,fr,S,h=>by
  simp only [Sl] at h
  split at h <;> try (cases h; done)
  rename_i hg
  obtain ⟨v,S1,h1,h2⟩:=FN h
  obtain ⟨h3,h4⟩:=Lh h2
  obtain ⟨F,Sx,V,e1,e2,e3,e4⟩:=Ut rest _ _ h3
  refine ⟨fun | 0=>fr | i + 1=>F i,fun | 0=>S | i + 1=>Sx i,fun | 0=>v | i + 1=>V i,rfl,rfl,e3,fun q j' hj=>?_⟩
  cases q with
  | zero=>
   simp only [List.getElem?_cons_zero,Option.some.injEq] at hj
   subst hj
   refine ⟨hg,by show aop C run f fr S _ = some (v,Sx 0); rw [e2]; exact h1,e1,fun i hi=>?_⟩
   obtain ⟨d,u,g1,g2,g3⟩:=h4 i hi
   exact ⟨d,u,g1,by show (F 0)[d]? = _; rw [e1]; exact g2,by show aop C run f (F 0) (Sx 0) _ = some (u,Sx 0); rw [e1,e2]; exact g3⟩
  | succ q=>
   simp only [List.getElem?_cons_succ] at hj
   exact e4 q j' hj
theorem bX {C:Cfg} {run:FuncId→List AV→St→Option (AV×St)} {f:FuncId} {ops:Array Oper} {ρ:Type} {k:List AV→St→Option ρ} {r:ρ} {fr:List AV} {S:St} (h:Sj C run f ops k fr S = some r) :
  ∃ (F:Nat→List AV) (Sx:Nat→St) (V:Nat→AV),F 0 = fr∧Sx 0 = S∧k (F ((BA C f ops).map fun i=>ops.getD i default).length) (Sx ((BA C f ops).map fun i=>ops.getD i default).length) = some r ∧
   (∀ i o,((BA C f ops).map fun i=>ops.getD i default)[i]? = some o→CS C run f ops (F i) (Sx i) o (V i) (Sx (i + 1))∧F (i + 1) = DG (F i) o.dst (V i)) ∧
   ∀ (q j i:Nat),(BA C f ops)[q]? = some j→(j,i)∈RG C f ops→(∀ (q' j':Nat),(BA C f ops)[q']? = some j'→(ops.getD j' default).guard = none)∧∃ d v,(ops.getD i default).dst = some d∧(F (q + 1))[d]? = some v∧aop C run f (F (q + 1)) (Sx (q + 1)) (ops.getD i default) = some (v,Sx (q + 1)):=by
 unfold Sj at h
 split at h
 ·rename_i hp
  obtain ⟨F,Sx,V,f0,s0,fin0,tr⟩:=Uu _ _ _ _ (GY.nil fr) h
  exact ⟨F,Sx,V,f0,s0,fin0,tr,fun q j i _ hi=>by rw [hp] at hi; cases hi⟩
 ·rename_i p ps hp
  obtain ⟨F,Sx,V,f0,s0,fin0,tr⟩:=Ut _ _ _ h
  refine ⟨F,Sx,V,f0,s0,by rw [List.length_map]; exact fin0,fun i o ho=>?_,fun q j i hj hi=>⟨fun q' j' hj'=>(tr q' j' hj').1,(tr q j hj).2.2.2 i (by rw [hp] at hi; exact hi)⟩⟩
  rw [List.getElem?_map,Option.map_eq_some_iff] at ho
  obtain ⟨j,hj,rfl⟩:=ho
  obtain ⟨g1,g2,g3,_⟩:=tr i j hj
  refine ⟨?_,g3⟩
  unfold CS
  rw [g1]
  exact g2
theorem j5 {C:Cfg} {run:FuncId→List AV→St→Option (AV×St)} {f:FuncId} {fr fr':List AV} {S:St} {o:Oper} {x:Nat} (hl:Ns o = some x) (hx:fr.getD x und = fr'.getD x und):aop C run f fr S o = aop C run f fr' S o:=by
 obtain ⟨dst,op,type,pos,after,guard⟩:=o
 unfold Ns at hl
 dsimp only at hl
 split at hl <;> try (cases hl; done)
 rename_i t x'
 injection hl with hl; subst hl
 simp only [aop,aev,hx]
theorem W4 {C:Cfg} {run:FuncId→List AV→St→Option (AV×St)} {f:FuncId} {ops:Array Oper} {F:Nat→List AV} {Sx:Nat→St} {V:Nat→AV}
  (tr:∀ (k i:Nat) (o:Oper),(BA C f ops)[k]? = some i→ops[i]? = some o→CS C run f ops (F k) (Sx k) o (V k) (Sx (k + 1))∧F (k + 1) = DG (F k) o.dst (V k))
  (hop:∀ k,k < (BA C f ops).length→∃ i o,(BA C f ops)[k]? = some i∧ops[i]? = some o) {p i:Nat} {o:Oper} (h1:(BA C f ops)[p]? = some i) (h2:ops[i]? = some o) (hl:IJ C f ops i = true)
  (hap:∀ x j oj y,Ns o = some x→j∈D8 (BA C f ops) i→ops[j]? = some oj→Pq oj = some y→((Eb ops.toList []).getD j 0).testBit i = false→EC ((F (BA C f ops).length).getD x .non) ((F (BA C f ops).length).getD y .non) = true)
  (hapA:∀ x j oj y,Ns o = some x→j∈D8 (BA C f ops) i→ops[j]? = some oj→LC oj = some y→((Eb ops.toList []).getD j 0).testBit i = false→EC ((F (BA C f ops).length).getD x .non) ((F (BA C f ops).length).getD y .non) = true)
  (hC:∀ q j oj,p < q→(BA C f ops)[q]? = some j→ops[j]? = some oj→YZ oj = true→BX C f oj = false→EH C f oj = false→((Eb ops.toList []).getD j 0).testBit i = false→o.guard = none∧∃ d v,o.dst = some d∧(F (q + 1))[d]? = some v∧aop C run f (F (q + 1)) (Sx (q + 1)) o = some (v,Sx (q + 1))):FO C run f ops (BA C f ops) F Sx V p:=by
 have hdef:∀ (i:Nat) (o:Oper),ops[i]? = some o→ops.getD i default = o:=fun i o h2=>by simp [Array.getD_eq_getD_getElem?,h2]
 have stay:=QH tr hop
 unfold IJ at hl
 rw [hdef i o h2] at hl
 split at hl <;> try (cases hl; done)
 rename_i x hx
 rw [Bool.and_eq_true,List.all_eq_true] at hl
 obtain ⟨hd,hall⟩:=hl
 have hpl:p < (BA C f ops).length:=(List.getElem?_eq_some_iff.1 h1).1
 have hpure:BX C f o = true:=by
  obtain ⟨dst,op,type,pos,after,guard⟩:=o
  unfold Ns at hx
  dsimp only at hx
  split at hx <;> first | rfl | cases hx
 have hget:∀ (q j:Nat) (oj:Oper),p < q→(BA C f ops)[q]? = some j→ops[j]? = some oj→(BX C f oj = true∨EH C f oj = true∨(∃ y,Pq oj = some y∧∀ (r k:Nat) (ok:Oper),q≤r→(BA C f ops)[r]? = some k→ops[k]? = some ok→ok.dst≠some y)∨((Eb ops.toList []).getD j 0).testBit i = true∨GT_ C f ops j = true∨(YZ oj = true∧eR C f ops i = true))∧oj.dst≠some x:=by
  intro q j oj hq k1 k2
  have hm:=hall j (C7 _ (C0 ops) hq h1 k1)
  rw [hdef j oj k2] at hm
  simp only [Bool.and_eq_true,Bool.or_eq_true,bne_iff_ne,ne_eq] at hm
  refine ⟨?_,hm.2.1⟩
  rcases hm.1 with h | h | h | h | h | h
  ·exact .inl h
  ·exact .inr (.inl h)
  rotate_left
  ·exact .inr (.inr (.inr (.inl h)))
  ·exact .inr (.inr (.inr (.inr (.inl h))))
  ·exact .inr (.inr (.inr (.inr (.inr h))))
  ·obtain ⟨y,hy⟩:=Option.isSome_iff_exists.1 h
   refine .inr (.inr (.inl ⟨y,hy,fun r k ok hr g1 g2=>?_⟩))
   have h3:=hm.2.2
   rw [hy] at h3
   simp only [List.all_eq_true,bne_iff_ne,ne_eq] at h3
   have hk:k∈j::D8 (BA C f ops) j:=by
    rcases Nat.lt_or_ge q r with g | g
    ·exact List.mem_cons_of_mem _ (C7 _ (C0 ops) g k1 g1)
    ·have:q = r:=by omega
     subst this
     rw [k1] at g1; injection g1 with g1; subst g1
     exact List.mem_cons_self ..
   have:=h3 k hk
   rwa [hdef k ok g2] at this
 have hxs:(F (BA C f ops).length)[x]? = (F p)[x]?:=stay x p _ (by omega) (Nat.le_refl _) fun q j oj g1 g2 k1 k2=>by
  rcases Nat.lt_or_ge p q with g | g
  ·exact (hget q j oj g k1 k2).2
  ·have:p = q:=by omega
   subst this
   rw [h1] at k1; injection k1 with k1; subst k1
   rw [h2] at k2; injection k2 with k2; subst k2
   simpa using hd
 have hst:=(tr p i o h1 h2).1
 have hbase:CS C run f ops (F p) (Sx p) o (V p) (Sx p):=by
  have e:=hst.quiet hpure
  rw [e] at hst; exact hst
 refine ⟨i,o,h1,h2,hpure,fun q hq=>?_⟩
 induction hq with
 | refl=>intro _ _; exact hbase
 | step hq ih=>
  rename_i q
  intro hql hun
  have ihq:=ih (by omega) fun j y oj g1 g2=>hun j y oj g1 (by omega)
  obtain ⟨j,oj,k1,k2⟩:=hop q (by omega)
  have hstj:=(tr q j oj k1 k2).1
  rcases Nat.lt_or_ge p q with g | g
  rotate_left
  ·have:p = q:=Nat.le_antisymm hq g
   subst this
   rw [h1] at k1; injection k1 with k1; subst k1
   rw [h2] at k2; injection k2 with k2; subst k2
   rw [hstj.quiet hpure]; exact ihq
  have hstore:aop C run f (F q) (Sx q) oj = some (V q,Sx (q + 1))∨Sx (q + 1) = Sx q:=by
   unfold CS at hstj
   split at hstj
   ·exact .inl hstj
   ·obtain ⟨t,_,h | h⟩:=hstj
    ·exact .inl h.2
    ·exact .inr h.2.1
  have keep:(∀ b i' o' n L',(F p).getD x und = .bp b i' o' n L'→∀ B,(Sx q)[b]? = some B→(Sx (q + 1))[b]? = some B)→CS C run f ops (F p) (Sx (q + 1)) o (V p) (Sx (q + 1)):=fun hsame=>by
   unfold CS at ihq ⊢
   split at ihq
   ·exact O2 hx hsame ihq
   ·obtain ⟨t,ht,h | h⟩:=ihq
    ·exact ⟨t,ht,.inl ⟨h.1,O2 hx hsame h.2⟩⟩
    ·exact ⟨t,ht,.inr ⟨h.1,rfl,h.2.2⟩⟩
  have hno:BX C f oj = false→((Eb ops.toList []).getD j 0).testBit i = false:=fun hpj=>by
   rcases hun q j oj g (by omega) k1 k2 with h | h
   ·rw [hpj] at h; cases h
   ·exact h
  cases hpj:BX C f oj with
  | true=>rw [hstj.quiet hpj]; exact ihq
  | false=>
  have hnb:=hno hpj
  cases hgw:EH C f oj with
  | true=>
   refine keep fun b _ _ _ _ _ B hB=>?_
   rcases hstore with h1 | h1
   ·exact H5 hgw h1 b B hB
   ·rw [h1]; exact hB
  | false=>
  rcases (hget q j oj g k1 k2).1 with h | h | ⟨y,hy,hny⟩ | h | h | ⟨h,hdB⟩
  ·rw [hpj] at h; cases h
  rotate_left 4
  ·obtain ⟨hg0,d,v,hd0,hv,hao⟩:=hC q j oj g k1 k2 h hpj hgw hnb
   have hnd:∀ (r k:Nat) (ok:Oper),p < r→(BA C f ops)[r]? = some k→ops[k]? = some ok→ok.dst≠some d:=fun r k ok hr m1 m2=>by
    unfold eR at hdB
    have:=List.all_eq_true.1 hdB k (C7 _ (C0 ops) hr h1 m1)
    rw [hdef k ok m2,hdef i o h2,hd0] at this
    simpa using this
   have s1:(F (q + 1))[d]? = (F (p + 1))[d]?:=stay d (p + 1) (q + 1) (by omega) (by omega) fun r k ok g1 _ m1 m2=>hnd r k ok (by omega) m1 m2
   have s2:(F (q + 1))[x]? = (F p)[x]?:=stay x p (q + 1) (by omega) (by omega) fun r k ok g1 _ m1 m2=>by
    rcases Nat.lt_or_ge p r with g' | g'
    ·exact (hget r k ok g' m1 m2).2
    ·have:p = r:=by omega
     subst this
     rw [h1] at m1; injection m1 with m1; subst m1
     rw [h2] at m2; injection m2 with m2; subst m2
     simpa using hd
   have hv2:v = V p:=by
    rw [s1,(tr p i o h1 h2).2,hd0] at hv
    simp only [DG,List.getElem?_set] at hv
    rw [if_pos trivial] at hv
    split at hv <;> first | (injection hv with hv; exact hv.symm) | cases hv
   subst hv2
   unfold CS
   rw [hg0]
   show aop C run f (F p) (Sx (q + 1)) o = _
   rw [j5 (fr':=F (q + 1)) hx (by rw [List.getD_eq_getElem?_getD,List.getD_eq_getElem?_getD,s2])]
   exact hao
  ·refine keep fun b _ _ _ _ _ B hB=>?_
   rcases hstore with h1 | h1
   ·exact H5 h h1 b B hB
   ·rw [h1]; exact hB
  rotate_left
  ·rw [hnb] at h; cases h
  ·obtain ⟨y,hy,hst'⟩:=It k2 h
   refine keep fun b i' o' n L' hb B hB=>?_
   have hys:(F (BA C f ops).length)[y]? = (F q)[y]?:=stay y q _ (by omega) (Nat.le_refl _) fun r k ok g1 _ m1 m2=>by
    refine hst' k ok ?_ m2
    rcases Nat.lt_or_ge q r with g' | g'
    ·exact List.mem_cons_of_mem _ (C7 _ (C0 ops) g' k1 m1)
    ·have:q = r:=by omega
     subst this
     rw [k1] at m1; injection m1 with m1; subst m1
     exact List.mem_cons_self ..
   have e1:(F (BA C f ops).length).getD x .non = .bp b i' o' n L':=by
    rw [List.getD_eq_getElem?_getD,hxs]
    rw [List.getD_eq_getElem?_getD] at hb
    cases hc:(F p)[x]? with
    | none=>rw [hc] at hb; simp [und] at hb
    | some u=>rw [hc] at hb; simpa using hb
   exact Uh hy e1 (hapA x j oj y hx (C7 _ (C0 ops) g h1 k1) k2 hy hnb) hys hstore B hB
  have hys:(F (BA C f ops).length)[y]? = (F q)[y]?:=stay y q _ (by omega) (Nat.le_refl _) fun r k ok g1 _ m1 m2=>hny r k ok g1 m1 m2
  refine keep fun b i' o' n L' hb B hB=>?_
  refine Eq.trans ?_ hB
  rcases hstore with h | h
  rotate_left
  ·rw [h]
  refine U3 hy h b fun b' i2 o2 n2 L2 hy2 e=>?_
  subst e
  have h3:=hap x j oj y hx (C7 _ (C0 ops) g h1 k1) k2 hy hnb
  have e1:(F (BA C f ops).length).getD x .non = .bp b i' o' n L':=by
   rw [List.getD_eq_getElem?_getD,hxs]
   rw [List.getD_eq_getElem?_getD] at hb
   cases hc:(F p)[x]? with
   | none=>rw [hc] at hb; simp [und] at hb
   | some u=>rw [hc] at hb; simpa using hb
  have e2:(F (BA C f ops).length).getD y .non = .bp b i2 o2 n2 L2:=by
   rw [List.getD_eq_getElem?_getD,hys]
   rw [List.getD_eq_getElem?_getD] at hy2
   cases hc:(F q)[y]? with
   | none=>rw [hc] at hy2; simp [und] at hy2
   | some u=>rw [hc] at hy2; simpa using hy2
  rw [e1,e2] at h3
  simp [EC] at h3
theorem YN {C:Cfg} {G:World→Prop} (hm:C.P.follows .mixedOrders = true) (hN:Di C.P) {run:FuncId→List AV→St→Option (AV×St)} (hrun:Gt C.P g0 G run) {f:FuncId}:XD C g0 G run f:=by
 intro ops id ρ kn ke kr r X m0 A0 S0 w0 W a0 fr S m A a w hd hW hk hat hG
 simp only [Qj,Bool.and_eq_true] at hd
 obtain ⟨F,Sx,V,f0,s0,fin0,tr,hck⟩:=bX hk
 have hap:apL (F ((BA C f ops).map fun i=>ops.getD i default).length) (KO C f ops) = true:=by
  cases h:apL (F ((BA C f ops).map fun i=>ops.getD i default).length) (KO C f ops) with
  | true=>rfl
  | false=>rw [h] at fin0; cases fin0
 have fin:kn (F ((BA C f ops).map fun i=>ops.getD i default).length) (Sx ((BA C f ops).map fun i=>ops.getD i default).length) = some r:=by
  rw [hap] at fin0; exact fin0
 rw [List.length_map] at hap
 have hget:∀ (k i:Nat) (o:Oper),(BA C f ops)[k]? = some i→ops[i]? = some o→((BA C f ops).map fun i=>ops.getD i default)[k]? = some o:=by
  intro k i o h1 h2
  rw [List.getElem?_map,h1]
  simp [Array.getD_eq_getD_getElem?,h2]
 have hdef:∀ (i:Nat) (o:Oper),ops[i]? = some o→ops.getD i default = o:=fun i o h2=>by simp [Array.getD_eq_getD_getElem?,h2]
 have hs:Dx C run f ops (BA C f ops) ((List.range ops.size).filter (KP ops)).length F Sx V:=by
  refine ⟨fun i=>JP,C0 ops,fun k i o h1 h2=>?_,by simp [BA],fun p q i j oi oj hpq hp hq hoi hoj=>?_,fun i o ho e he hb=>?_,fun k i o h1 h2=>tr k o (hget k i o h1 h2)⟩
  ·unfold BA at h1
   have e1:KP ops i = GX o:=by simp only [KP,hdef i o h2]
   rw [← e1]
   constructor
   ·intro hlt
    rw [List.getElem?_append_left hlt] at h1
    exact (List.mem_filter.1 (List.mem_of_getElem? h1)).2
   ·intro ht
    rcases Nat.lt_or_ge k ((List.range ops.size).filter (KP ops)).length with q | q
    ·exact q
    ·rw [List.getElem?_append_right q] at h1
     have:=((JO ops).1 (List.mem_of_getElem? h1)).2
     rw [ht] at this; cases this
  ·have:=HS (BA C f ops) hd.1 p q i j hpq hp hq
   rw [hdef i oi hoi,hdef j oj hoj] at this
   have calm:FA C oi = true→FO C run f ops (BA C f ops) F Sx V p:=fun hc=>⟨i,oi,hp,hoi,Ua hc,fun q' _ _ _=>(tr p oi (hget p i oi hp hoi)).1.any hc⟩
   rcases this with h1 | ⟨h1 | h1 | h1 | h1,h2⟩
   ·exact .inl h1
   ·exact .inr ⟨.inl h1,h2⟩
   ·exact .inr ⟨.inr (.inl (calm h1)),h2⟩
   ·by_cases hn:RF C f ops (Eb ops.toList []) i = true
    ·refine .inr ⟨.inr (.inl<|W4 (fun k i o h1 h2=>tr k o (hget k i o h1 h2)) (fun k hk=>⟨(BA C f ops)[k],ops[(BA C f ops)[k]]'(JP.1 (List.getElem_mem hk)),List.getElem?_eq_getElem hk,Array.getElem?_eq_getElem _⟩) hp hoi h1 (fun x j' oj' y e1 e2 e3 e4 e5=>?_) (fun x j' oj' y e1 e2 e3 e4 e5=>?_) fun q' j' oj' e1 e2 e3 e4 e5 e6 e7=>?_),h2⟩
     rotate_left 2
     ·have hin:(j',i)∈RG C f ops:=by
       unfold RG
       refine List.mem_flatMap.2 ⟨i,List.mem_of_getElem? hp,?_⟩
       rw [h1,hn]
       simp only [Bool.and_self,if_true]
       refine List.mem_map.2 ⟨j',List.mem_filter.2 ⟨C7 _ (C0 ops) e1 hp e2,?_⟩,rfl⟩
       rw [hdef j' oj' e3,e4,e5,e6,e7]; rfl
      obtain ⟨q1,q2⟩:=hck q' j' i e2 hin
      rw [hdef i oi hoi] at q2
      exact ⟨by have:=q1 p i hp; rw [hdef i oi hoi] at this; exact this,q2⟩
     rotate_right
     ·refine J5 hap x y ?_
      unfold KO
      refine List.mem_flatMap.2 ⟨i,List.mem_of_getElem? hp,List.mem_append_right _ ?_⟩
      rw [h1,hn,hdef i oi hoi,e1]
      exact List.mem_append_right _ (List.mem_filterMap.2 ⟨j',e2,by rw [if_neg (by rw [e5]; simp),hdef j' oj' e3,e4]; rfl⟩)
     refine J5 hap x y ?_
     unfold KO
     refine List.mem_flatMap.2 ⟨i,List.mem_of_getElem? hp,List.mem_append_right _ ?_⟩
     rw [h1,hn,hdef i oi hoi,e1]
     exact List.mem_append_left _ (List.mem_filterMap.2 ⟨j',e2,by rw [if_neg (by rw [e5]; simp),hdef j' oj' e3,e4]; rfl⟩)
    ·simp only [RF,Bool.and_eq_true,Bool.not_eq_true',List.any_eq_true,not_and,not_exists] at hn
     cases hc:FA C oi with
     | true=>exact .inr ⟨.inr (.inl (calm hc)),h2⟩
     | false=>
      have:=hn (by rw [hdef i oi hoi]; exact hc) j (C7 _ (C0 ops) hpq hp hq)
      rw [hdef i oi hoi,hdef j oj hoj] at this
      by_cases hb:((Eb ops.toList []).getD j 0).testBit i = true
      ·exact .inl hb
      ·have hb':((Eb ops.toList []).getD j 0).testBit i = false:=by simpa using hb
       refine .inr ⟨.inl ?_,h2⟩
       have:=this hb'
       cases q1:CC C f oi <;> cases q2:CC C f oj <;> simp [q1,q2] at this ⊢
   ·by_cases hlo:CC C f oj = true
    ·exact .inr ⟨.inl ⟨by simp [CC,h1.1],hlo⟩,h2⟩
    ·have hst:=(tr q oj (hget q j oj hq hoj)).1
     have hstore:aop C run f (F q) (Sx q) oj = some (V q,Sx (q + 1))∨Sx (q + 1) = Sx q:=by
      unfold CS at hst
      split at hst
      ·exact .inl hst
      ·obtain ⟨t,_,h | h⟩:=hst
       ·exact .inl h.2
       ·exact .inr h.2.1
     cases hb:((Eb ops.toList []).getD j 0).testBit i with
     | true=>exact .inl rfl
     | false=>
      refine .inr ⟨.inr (.inr ⟨h1.1,?_,by simpa using hlo⟩),h2⟩
      rcases h1.2 with h3 | h3
      ·intro b B hB
       rcases hstore with h | h
       ·exact H5 h3 h b B hB
       ·rw [h]; exact hB
      ·obtain ⟨y,hy,hst'⟩:=It hoj h3
       refine Xw hy (J5 hap y y ?_) (QH (fun k i o h1 h2=>tr k o (hget k i o h1 h2)) (fun k hk=>⟨(BA C f ops)[k],ops[(BA C f ops)[k]]'(JP.1 (List.getElem_mem hk)),List.getElem?_eq_getElem hk,Array.getElem?_eq_getElem _⟩) y q _ (Nat.le_of_lt (List.getElem?_eq_some_iff.1 hq).1) (Nat.le_refl _) fun r k ok g1 _ m1 m2=>?_) hstore
       ·unfold KO
        refine List.mem_flatMap.2 ⟨i,List.mem_of_getElem? hp,List.mem_append_left _ ?_⟩
        rw [if_pos (by simpa only [KP,hdef i oi hoi] using h1.1)]
        exact List.mem_filterMap.2 ⟨j,C7 _ (C0 ops) hpq hp hq,by rw [if_neg (by rw [hb]; simp),hdef j oj hoj,hy]; rfl⟩
       ·refine hst' k ok ?_ m2
        rcases Nat.lt_or_ge q r with g' | g'
        ·exact List.mem_cons_of_mem _ (C7 _ (C0 ops) g' hq m1)
        ·have:q = r:=by omega
         subst this
         rw [hq] at m1; injection m1 with m1; subst m1
         exact List.mem_cons_self ..
  ·have:=Ii ops.toList 0 hd.2 i o (by simpa using ho) e he hb
   omega
 have hW':∀ (i:Nat) (o:Oper),ops[i]? = some o→∀ t,o.dst = some t→t∈W:=fun i o ho=>hW o (by simpa using Array.mem_of_getElem? ho)
 have hlen:((BA C f ops).map fun i=>ops.getD i default).length = (BA C f ops).length:=by simp
 rw [hlen] at fin
 refine wp_region_any hm ?_
 refine OC hN hrun hG (by rw [s0]; exact hat.ext.len) hW' hs (fun m A a w hat'=>⟨_,_,m,A,fin,hat'⟩) ops.size _ a _ ?_ (by simp)
 obtain ⟨hrd,hed⟩:=hat.rel.drew
 obtain ⟨E,hE,_⟩:=hs.grow (k:=0) _ (Nat.zero_le _) (Nat.le_refl _)
 rw [s0] at hE
 have hnd:∀ k,¬ dn (BA C f ops) (Array.replicate ops.size false) k:=by
  rintro k ⟨i,_,h2⟩
  rw [Array.getD_eq_getD_getElem?,Array.getElem?_replicate] at h2
  split at h2 <;> simp at h2
 refine ⟨_,m,A,Nat.le_refl _,hs.hL,fun q=>absurd q (Nat.lt_irrefl _),fun k _ hdn=>absurd hdn (hnd k),?_,?_,fun k hk _=>?_,fun i hin hpu t v cv hp1 hp2 hF hcv=>?_,by rw [f0]; exact hat.fr.1,hat.defers,hat.keeps,
  fun i o ho hl=>?_,by simp⟩
 ·rw [hE]; exact hrd.empty E
 ·rw [hE]; exact (hat.ext.trans hed).trans (Ext.empty m A S E _)
 ·obtain ⟨i,o,h1,h2⟩:=hs.op (Nat.lt_of_lt_of_le hk hs.hL)
  obtain ⟨t,z,_,_,_,_,_,e6⟩:=hs.alloc hk h1 h2
  obtain ⟨E2,hE2,_⟩:=hs.grow (k:=k + 1) _ (Nat.succ_le_of_lt hk) (Nat.le_refl _)
  refine ⟨?_,by rw [hE2,List.getElem?_append_left (by rw [e6]; simp)]⟩
  cases hmb:m (Sx k).length with
  | none=>rfl
  | some q=>
   have h1:=hat.rel.lt hmb
   obtain ⟨E',hE',_⟩:=hs.grow (k:=0) k (Nat.zero_le _) (by omega)
   rw [s0] at hE'
   rw [hE'] at h1; simp at h1; omega
 ·have hst:=hs.stay (i:=0) (t:=t) i (Nat.zero_le _) hin (fun j _ hj hw=>hnd j (hp1 j hj hw))
  rw [hst,f0] at hF
  rw [hE]
  exact ((hat.fr.2 t v cv hF hcv).mono hat.rel hed).mono hrd (Ext.empty m A S E _)
 ·rw [Array.getD_eq_getD_getElem?,Array.getElem?_replicate] at hl
  split at hl <;> simp at hl
end Go.Rf
