/- Regions in the text's order; code; calls. -/
import Derived.Test.YthbiabieiopobaaGreatDoorRf13
set_option linter.unusedVariables false
set_option linter.unusedSimpArgs false
namespace Go.Rf
open Go
variable {g0:Nat} {X:Nat→Prop} {m:Bd} {A:Nat→Prop} {S:St} {w:World}
theorem II {α:Type} {o:Option α} {S S1:St} {v:α} (h:o.map (·,S) = some (v,S1)):S1 = S:=by
  cases o with
  | none=>cases h
  | some x=>injection h with h; injection h with _ h; exact h.symm
theorem IS {C:Cfg} {run:FuncId→List AV→St→Option (AV×St)} {f:FuncId} {fr:List AV} {S S1:St} {o:Oper} {v:AV} (hp:BX C f o = true) (h:aop C run f fr S o = some (v,S1)):S1 = S:=by
  obtain ⟨dst,op,type,pos,after,guard⟩:=o
  cases op <;> simp only [BX,Bool.false_eq_true] at hp <;> simp only [aop] at h
  case call c=>
    obtain ⟨callee,args,ats⟩:=c
    cases callee with
    | builtin b=>
      cases b <;> simp only [Bool.false_eq_true] at hp <;> simp only [G9] at h
      all_goals first
        | exact II h
        | (repeat' (split at h)
           all_goals first | (cases h; done) | exact II h)
    | invoke r mth=>cases h
    | value g=>
      cases g <;> simp only [Bool.false_eq_true,beq_iff_eq] at hp
      rename_i g
      simp only [aev,MJ,hp] at h
      repeat' (split at h)
      all_goals first | (cases h; done) | (injection h with h; injection h with _ h; exact h.symm)
  case buildSlice t len parts=>
    rw [hp] at h
    exact (IX h).2
  all_goals
    first
    | (repeat' (split at h)
       all_goals first | (cases h; done) | exact II h | (injection h with h; injection h with _ h; exact h.symm))
theorem FN {C:Cfg} {run:FuncId→List AV→St→Option (AV×St)} {f:FuncId} {fr:List AV} {S:St} {o:Oper} {ρ:Type} {k:AV→St→Option ρ} {r:ρ} (h:Q9 C run f fr S o k = some r) :
    ∃ v S1,aop C run f fr S o = some (v,S1)∧k v S1 = some r:=by
  unfold Q9 at h
  cases hp:BX C f o with
  | true=>
    rw [hp] at h
    simp only [cond_true] at h
    split at h <;> try (cases h; done)
    rename_i v S1 h1
    have:=IS hp h1
    subst this
    exact ⟨v,_,h1,h⟩
  | false=>
    rw [hp] at h
    simp only [cond_false] at h
    split at h <;> try (cases h; done)
    rename_i v S1 h1
    exact ⟨v,S1,h1,h⟩
def DT (W:List Nat) (a0 a:Act):Prop:=a.tmps.size = a0.tmps.size∧(∀ t,t ∉ W→a.tmps[t]? = a0.tmps[t]?)
theorem DT.refl (W:List Nat) (a:Act):DT W a a:=⟨rfl,fun _ _=>rfl⟩
theorem DT.put {W:List Nat} {a0 a:Act} (h:DT W a0 a) (d:Option Tmp) (v:Value) (hd:∀ t,d = some t→t∈W):DT W a0 (a.put d v):=by
  cases d with
  | none=>exact h
  | some d=>
    refine ⟨by simp [Act.put,h.1],fun t ht=>?_⟩
    simp only [Act.put]
    rw [Array.getElem?_setIfInBounds_ne (fun e=>ht (by rw [← e]; exact hd d rfl))]
    exact h.2 t ht
theorem FV (a:Act) (d:Option Tmp) (v:Value):(a.put d v).defers = a.defers:=by cases d <;> rfl
structure At (g0:Nat) (X:Nat→Prop) (m0:Bd) (A0:Nat→Prop) (S0:St) (w0:World) (W:List Nat) (a0:Act) (fr:List AV) (S:St) (m:Bd) (A:Nat→Prop) (a:Act) (w:World):Prop where
  rel:Rel g0 X m A S w
  ext:Ext m0 A0 S0 w0 m A S w
  fr:FR X m A S w fr a
  defers:a.defers = []
  keeps:DT W a0 a
variable {m0:Bd} {A0:Nat→Prop} {S0:St} {w0:World} {W:List Nat} {a0:Act}
theorem At.put {fr:List AV} {a:Act} (h:At g0 X m0 A0 S0 w0 W a0 fr S m A a w) {m':Bd} {A':Nat→Prop} {S':St} {w':World} (hr:Rel g0 X m' A' S' w') (he:Ext m A S w m' A' S' w') {v:AV} {cv:Value}
    (hv:VR X m' A' S' w' v cv) (d:Option Tmp) (hd:∀ t,d = some t→t∈W):At g0 X m0 A0 S0 w0 W a0 (DG fr d v) S' m' A' (a.put d cv) w':=
  ⟨hr,h.ext.trans he,(h.fr.mono h.rel he).put hv d,by rw [FV]; exact h.defers,h.keeps.put d cv hd⟩
theorem At.refine {fr:List AV} {a:Act} (h:At g0 X m0 A0 S0 w0 W a0 fr S m A a w) {t:Nat} {b:Bool} (hb:fr.getD t .non = .bool b):At g0 X m0 A0 S0 w0 W a0 (fr.set t (.bool b)) S m A a w:=by
  refine ⟨h.rel,h.ext,⟨by simpa using h.fr.1,fun t' v cv h1 h2=>?_⟩,h.defers,h.keeps⟩
  by_cases e:t = t'
  · subst e
    have ht:t < fr.length:=by have:=(List.getElem?_eq_some_iff.1 h1).1; simpa using this
    rw [List.getElem?_set_self ht] at h1
    injection h1 with h1; subst h1
    have h3:fr[t]? = some (.bool b):=by
      rw [List.getElem?_eq_getElem ht]
      simp only [List.getD,List.getElem?_eq_getElem ht,Option.getD_some] at hb
      rw [hb]
    exact h.fr.2 t _ cv h3 h2
  · rw [List.getElem?_set_ne e] at h1
    exact h.fr.2 t' v cv h1 h2
theorem FP {ops:Array Oper} {a:Act} {j t:Nat} (hj:(ops[j]?).bind (·.dst) = some t) {fr:List AV} (hf:FR X m A S w fr a) {b:Bool} (hb:fr.getD t .non = .bool b):yielded ops a.tmps j = some b:=by
  unfold yielded
  rw [hj]
  by_cases ht:t < fr.length
  · have ht':t < a.tmps.size:=hf.1 ▸ ht
    simp only [List.getD,List.getElem?_eq_getElem ht,Option.getD_some] at hb
    have:=hf.2 t fr[t] a.tmps[t] (List.getElem?_eq_getElem ht) (Array.getElem?_eq_getElem ht')
    rw [hb] at this
    simp only [Option.bind_some,Array.getElem?_eq_getElem ht']
    generalize a.tmps[t] = u at this
    cases this; rfl
  · simp [List.getD,ht] at hb
def GY (sk:List Nat) (fr:List AV):Prop:=∀ t,Ff sk t = true→∀ v,fr[t]? = some v→v = und
theorem Gv {ops:Array Oper} {a:Act} {j t:Nat} (hj:(ops[j]?).bind (·.dst) = some t) {fr:List AV} (hf:FR X m A S w fr a) (hb:∀ v,fr[t]? = some v→v = und):yielded ops a.tmps j = none:=by
  unfold yielded
  rw [hj]
  by_cases ht:t < fr.length
  · have ht':t < a.tmps.size:=hf.1 ▸ ht
    have:=hf.2 t fr[t] a.tmps[t] (List.getElem?_eq_getElem ht) (Array.getElem?_eq_getElem ht')
    rw [hb fr[t] (List.getElem?_eq_getElem ht)] at this
    simp only [Option.bind_some,Array.getElem?_eq_getElem ht']
    generalize a.tmps[t] = u at this
    cases this; rfl
  · have ht':¬ t < a.tmps.size:=hf.1 ▸ ht
    simp [ht']
theorem MU (sk:List Nat) (d t:Nat) (h:Ff (sk.filter fun t=>!Nat.beq t d) t = true):Ff sk t = true∧t≠d:=by
  induction sk with
  | nil=>cases h
  | cons x r ih=>
    simp only [List.filter_cons] at h
    split at h
    · rename_i hx
      simp only [Ff,Bool.cond_eq_ite] at h ⊢
      split at h
      · rename_i he
        have e2:x = t:=Nat.eq_of_beq_eq_true he
        refine ⟨by rw [if_pos he],fun e3=>?_⟩
        rw [e2,e3] at hx
        simp at hx
      · rename_i he
        obtain ⟨h1,h2⟩:=ih h
        exact ⟨by rw [if_neg he]; exact h1,h2⟩
    · obtain ⟨h1,h2⟩:=ih h
      refine ⟨?_,h2⟩
      simp only [Ff,Bool.cond_eq_ite]
      split
      · rfl
      · exact h1
theorem GY.nil (fr:List AV):GY [] fr:=fun t h=>by cases h
theorem GY.del {sk:List Nat} {fr:List AV} (h:GY sk fr) (d:Option Tmp) (v:AV):GY (NP sk d) (DG fr d v):=by
  cases d with
  | none=>exact h
  | some d=>
    intro t ht u hu
    obtain ⟨h1,h2⟩:=MU sk d t ht
    simp only [DG] at hu
    rw [List.getElem?_set_ne (fun e=>h2 e.symm)] at hu
    exact h t h1 u hu
theorem GY.add {sk:List Nat} {fr:List AV} (h:GY sk fr) (d:Option Tmp):GY (LI sk d) (DG fr d und):=by
  cases d with
  | none=>exact h
  | some d=>
    intro t ht u hu
    simp only [DG] at hu
    by_cases e:d = t
    · subst e
      by_cases hd:d < fr.length
      · rw [List.getElem?_set_self hd] at hu; injection hu with hu; exact hu.symm
      · rw [List.getElem?_eq_none (by rw [List.length_set]; exact Nat.le_of_not_lt hd)] at hu; cases hu
    · rw [List.getElem?_set_ne e] at hu
      simp only [LI,Ff,Bool.cond_eq_ite] at ht
      rw [if_neg (by simpa using e)] at ht
      exact h t ht u hu
theorem FF {fr:List AV} {t:Nat} {x:AV} (h:fr.getD t .non = x):fr.set t x = fr:=by
  apply List.ext_getElem?
  intro i
  by_cases e:t = i
  · subst e
    by_cases ht:t < fr.length
    · rw [List.getElem?_set_self ht,List.getElem?_eq_getElem ht]
      simp only [List.getD,List.getElem?_eq_getElem ht,Option.getD_some] at h
      rw [h]
    · rw [List.getElem?_eq_none (by simp; omega),List.getElem?_eq_none (by omega)]
  · rw [List.getElem?_set_ne e]
theorem NG {C:Cfg} {G:World→Prop} (hL:Pg g0 G) (hN:Di C.P) {run:FuncId→List AV→St→Option (AV×St)} (hrun:Gt C.P g0 G run) {f:FuncId} {ρ:Type} {k:List AV→St→Option ρ} {r:ρ} {ops:Array Oper}
    {Q:Exit→Act→World→Prop} (hQ:∀ fr S m A a w,k fr S = some r→At g0 X m0 A0 S0 w0 W a0 fr S m A a w→Q .normal a w) :
    ∀ (l:List Oper) (sk:List Nat) (fr:List AV) (S:St) (m:Bd) (A:Nat→Prop) (a:Act) (w:World),GY sk fr→(∀ o∈l,∀ t,o.dst = some t→t∈W)→Gu C run f ops k l sk fr S = some r→At g0 X m0 A0 S0 w0 W a0 fr S m A a w→G w→wpList C.P ops Q l a w
  | [],sk,fr,S,m,A,a,w,_,_,h,hat,hG=>hQ fr S m A a w h hat
  | o :: rest,sk,fr,S,m,A,a,w,hsk,hW,h,hat,hG=>by
    have ih:=NG (f:=f) (ops:=ops) hL hN hrun hQ rest
    have hWr:∀ o∈rest,∀ t,o.dst = some t→t∈W:=fun o ho=>hW o (by simp [ho])
    have step:(Q9 C run f fr S o fun v S=>Gu C run f ops k rest (NP sk o.dst) (DG fr o.dst v) S) = some r→o.wp C.P a w (wpList C.P ops Q rest) Q:=by
      intro h'
      obtain ⟨v,S1,h1,h2⟩:=FN h'
      refine NH hN hrun hat.rel hG hat.fr h1 _ _ (fun m' A' w' cv k1 k2 k3=>?_)
      exact ih _ _ _ m' A' _ w' (hsk.del o.dst v) hWr h2 (hat.put k1 k2 k3 o.dst (hW o (by simp))) (hL.ext hat.rel k2 hG)
    have skip:Gu C run f ops k rest (LI sk o.dst) (DG fr o.dst und) S = some r→wpList C.P ops Q rest (a.put o.dst undef) w:=by
      intro h'
      exact ih _ _ _ m A _ w (hsk.add o.dst) hWr h' (hat.put hat.rel (Ext.refl _ _ _ _) VR.und o.dst (hW o (by simp))) hG
    simp only [Gu] at h
    unfold wpList
    split at h
    · rename_i hg
      rw [if_pos (by simp [Region.wanted,hg])]
      exact .inl (step h)
    · rename_i j want hg
      split at h <;> try (cases h; done)
      rename_i t ht
      by_cases hs:Ff sk t = true
      · rw [hs] at h
        simp only [cond_true] at h
        have hy:=Gv ht hat.fr (hsk t hs)
        rw [if_neg (by simp [Region.wanted,hg,hy])]
        exact skip h
      · have hs':Ff sk t = false:=by simpa using hs
        rw [hs'] at h
        simp only [cond_false] at h
        split at h <;> try (cases h; done)
        rename_i b hb
        have hy:=FP ht hat.fr hb
        by_cases hbw:(b == want) = true
        · rw [hbw] at h
          simp only [cond_true] at h
          have e1:b = want:=by simpa using hbw
          rw [if_pos (by simp [Region.wanted,hg,hy,e1])]
          rw [FF (e1 ▸ hb)] at h
          exact .inl (step h)
        · have hbw':(b == want) = false:=by simpa using hbw
          rw [hbw'] at h
          simp only [cond_false] at h
          have e1:b = !want:=by cases b <;> cases want <;> simp_all
          rw [if_neg (by simp [Region.wanted,hg,hy,e1])]
          rw [FF (e1 ▸ hb)] at h
          exact skip h
def CP (g0:Nat) (X:Nat→Prop) (m0:Bd) (A0:Nat→Prop) (S0:St) (w0:World) (W:List Nat) (a0:Act) {ρ:Type} (kn:List AV→St→Option ρ) (ke:Nat→List AV→St→Option ρ) (kr:List AV→St→Option ρ) (r:ρ):Exit→Act→World→Prop
  | .normal,a,w=>∃ fr S m A,kn fr S = some r∧At g0 X m0 A0 S0 w0 W a0 fr S m A a w
  | .exit id,a,w=>∃ fr S m A,ke id fr S = some r∧At g0 X m0 A0 S0 w0 W a0 fr S m A a w
  | .ret,a,w=>∃ fr S m A,kr fr S = some r∧At g0 X m0 A0 S0 w0 W a0 fr S m A a w
  | _,_,_=>False
theorem Ih (wl lo:List Nat) (l:List AV):∀ (fr:List AV) (k t:Nat),(emb wl lo l k fr)[t]? = (fr[t]?).map fun x=>match lo.idxOf? (k + t) with
      | some j=>l.getD j .non
      | none=>if wl.contains (k + t) then .non else x
  | [],k,t=>by simp [emb]
  | x :: fr,k,t=>by
    cases t with
    | zero=>simp only [emb,List.getElem?_cons_zero,Option.map_some,Nat.add_zero]; rfl
    | succ t=>
      simp only [emb,List.getElem?_cons_succ]
      rw [Ih wl lo l fr (k + 1) t,show k + 1 + t = k + (t + 1) by omega]
theorem KV (wl lo:List Nat) (l:List AV):∀ (fr:List AV) (k:Nat),(emb wl lo l k fr).length = fr.length
  | [],k=>rfl
  | x::fr,k=>by simp [emb,KV wl lo l fr (k + 1)]
theorem WN {m1:Bd} {A1:Nat→Prop} {S1:St} {w1:World} {fr:List AV} {a:Act} (hf:FR X m A S w fr a) (hr:Rel g0 X m A S w) {wl lo:List Nat} {fr1:List AV} {a1:Act} (he:Ext m A S w m1 A1 S1 w1) (hf1:FR X m1 A1 S1 w1 fr1 a1)
    (hk:DT wl a a1):FR X m1 A1 S1 w1 (emb wl lo (FH lo fr1) 0 fr) a1:=by
  refine ⟨by rw [KV,hf.1,hk.1],fun t v cv h1 h2=>?_⟩
  rw [Ih,Option.map_eq_some_iff] at h1
  obtain ⟨x,hx,rfl⟩:=h1
  simp only [Nat.zero_add]
  split
  · rename_i j hj
    have hjl:lo[j]? = some t:=by
      rw [List.idxOf?_eq_some_iff] at hj
      obtain ⟨h3,h4,_⟩:=hj
      rw [List.getElem?_eq_getElem h3]
      simpa using h4
    have hp:(FH lo fr1).getD j .non = fr1.getD t .non:=by
      simp [FH,List.getD,List.getElem?_map,hjl]
    rw [hp]
    by_cases ht:t < fr1.length
    · have:fr1.getD t .non = fr1[t]:=by simp [List.getD,ht]
      rw [this]
      exact hf1.2 t _ cv (List.getElem?_eq_getElem ht) h2
    · have:fr1.getD t .non = .non:=by simp [List.getD,ht]
      rw [this]; exact .non _
  · split
    · exact .non _
    · rename_i hc
      have hnot:t ∉ wl:=by simpa using hc
      rw [hk.2 t hnot] at h2
      exact (hf.2 t x cv hx h2).mono hr he
theorem DT.sub {W W':List Nat} {a0 a:Act} (h:DT W a0 a) (hs:∀ t,t∈W→t∈W'):DT W' a0 a:=⟨h.1,fun t ht=>h.2 t (fun hh=>ht (hs t hh))⟩
theorem DT.trans {W:List Nat} {a0 a1 a2:Act} (h:DT W a0 a1) (k:DT W a1 a2):DT W a0 a2:=⟨k.1.trans h.1,fun t ht=>(k.2 t ht).trans (h.2 t ht)⟩
def XD (C:Cfg) (g0:Nat) (G:World→Prop) (run:FuncId→List AV→St→Option (AV×St)) (f:FuncId):Prop:=
  ∀ (ops:Array Oper) (id:Nat) {ρ:Type} (kn:List AV→St→Option ρ) (ke:Nat→List AV→St→Option ρ) (kr:List AV→St→Option ρ) (r:ρ) (X:Nat→Prop) (m0:Bd) (A0:Nat→Prop) (S0:St) (w0:World) (W:List Nat) (a0:Act)
    (fr:List AV) (S:St) (m:Bd) (A:Nat→Prop) (a:Act) (w:World),Qj C f ops = true→(∀ o∈ops.toList,∀ t,o.dst = some t→t∈W)→Sj C run f ops (fun fr S=>bif apL fr (KO C f ops) then kn fr S else none) fr S = some r →
    At g0 X m0 A0 S0 w0 W a0 fr S m A a w→(∀ m A S w,Ext m0 A0 S0 w0 m A S w→G w)→(Code.region id ops true).wp C.P (CP g0 X m0 A0 S0 w0 W a0 kn ke kr r) a w
theorem At.join {fr:List AV} {a:Act} (h:At g0 X m0 A0 S0 w0 W a0 fr S m A a w) {wl lo:List Nat} (hs:∀ t,t∈wl→t∈W) {fr1:List AV} {S1:St} {m1:Bd} {A1:Nat→Prop} {a1:Act} {w1:World}
    (k:At g0 X m A S w wl a fr1 S1 m1 A1 a1 w1):At g0 X m0 A0 S0 w0 W a0 (emb wl lo (FH lo fr1) 0 fr) S1 m1 A1 a1 w1:=
  ⟨k.rel,h.ext.trans k.ext,WN h.fr h.rel k.ext k.fr k.keeps,k.defers,h.keeps.trans (k.keeps.sub hs)⟩
theorem W3 {J:Nat→Prop}:∀ n,J n→∃ k,J k∧∀ i,J i→k≤i:=by
  intro n
  induction n using Nat.strongRecOn with
  | _ n ih=>
    intro hn
    by_cases h:∃ i,i < n∧J i
    · obtain ⟨i,hi,hj⟩:=h; exact ih i hi hj
    · exact ⟨n,hn,fun i hi=>by
        rcases Nat.lt_or_ge i n with k | k
        · exact (h ⟨i,k,hi⟩).elim
        · exact k⟩
open Classical in
noncomputable def KN (J:Nat→Prop):Nat:=if h:∃ n,J n then (W3 h.choose h.choose_spec).choose else 0
theorem O1 {J:Nat→Prop} (h:∃ n,J n):J (KN J):=by
  unfold KN; rw [dif_pos h]; exact (W3 h.choose h.choose_spec).choose_spec.1
theorem TE {J:Nat→Prop} {n:Nat} (h:J n):KN J≤n:=by
  have hh:∃ n,J n:=⟨n,h⟩
  unfold KN; rw [dif_pos hh]; exact (W3 hh.choose hh.choose_spec).choose_spec.2 n h
def fX (g0:Nat) (X:Nat→Prop) (m:Bd) (A:Nat→Prop) (S:St) (w:World) (wl lo:List Nat) (a:Act) (fr:List AV) (step:List AV→St→Option Dn) (o:Dn) (n:Nat) (a1:Act) (w1:World):Prop:=
  ∃ l S1 m1 A1,AW step n l S1 = some o∧At g0 X m A S w wl a (emb wl lo l 0 fr) S1 m1 A1 a1 w1
theorem X3 {C:Cfg} {G:World→Prop} (hL:Pg g0 G) (hN:Di C.P) {run:FuncId→List AV→St→Option (AV×St)} (hrun:Gt C.P g0 G run) {f:FuncId} (hD:XD C g0 G run f) :
    ∀ (c:Code) {ρ:Type} (kn:List AV→St→Option ρ) (ke:Nat→List AV→St→Option ρ) (kr:List AV→St→Option ρ) (r:ρ) (X:Nat→Prop) (m0:Bd) (A0:Nat→Prop) (S0:St) (w0:World) (W:List Nat) (a0:Act)
      (fr:List AV) (S:St) (m:Bd) (A:Nat→Prop) (a:Act) (w:World),(∀ t,t∈wr c→t∈W)→Et C run f c kn ke kr fr S = some r→At g0 X m0 A0 S0 w0 W a0 fr S m A a w →
      (∀ m A S w,Ext m0 A0 S0 w0 m A S w→G w)→c.wp C.P (CP g0 X m0 A0 S0 w0 W a0 kn ke kr r) a w:=by
  intro c
  induction c with
  | skip=>intro ρ kn ke kr r X m0 A0 S0 w0 W a0 fr S m A a w hW h hat hG; exact wp_skip ⟨fr,S,m,A,h,hat⟩
  | exit id=>intro ρ kn ke kr r X m0 A0 S0 w0 W a0 fr S m A a w hW h hat hG; exact wp_exit ⟨fr,S,m,A,h,hat⟩
  | ret=>intro ρ kn ke kr r X m0 A0 S0 w0 W a0 fr S m A a w hW h hat hG; exact wp_ret ⟨fr,S,m,A,h,hat⟩
  | region id ops draw=>
    intro ρ kn ke kr r X m0 A0 S0 w0 W a0 fr S m A a w hW h hat hG
    have hW':∀ o∈ops.toList,∀ t,o.dst = some t→t∈W:=fun o ho t ht=>hW t (by simp only [wr,List.mem_filterMap]; exact ⟨o,ho,ht⟩)
    cases draw with
    | false=>
      simp only [Et,Bool.false_eq_true,if_false] at h
      exact wp_region_list (NG hL hN hrun (fun fr S m A a w hk hat=>⟨fr,S,m,A,hk,hat⟩) ops.toList [] fr S m A a w (GY.nil fr) hW' h hat (hG _ _ _ _ hat.ext))
    | true=>
      simp only [Et,if_true] at h
      split at h <;> try (cases h; done)
      rename_i hd
      exact hD ops id kn ke kr r X m0 A0 S0 w0 W a0 fr S m A a w hd hW' h hat hG
  | seq x y ihx ihy=>
    intro ρ kn ke kr r X m0 A0 S0 w0 W a0 fr S m A a w hW h hat hG
    have hWx:∀ t,t∈wr x→t∈W:=fun t ht=>hW t (by simp [wr,ht])
    have hWy:∀ t,t∈wr y→t∈W:=fun t ht=>hW t (by simp [wr,ht])
    simp only [Et] at h
    split at h
    · refine wp_seq (wp_mono (ihx _ ke kr r X m0 A0 S0 w0 W a0 fr S m A a w hWx h hat hG) (fun e a' w' hq=>?_))
      cases e with
      | normal=>
        obtain ⟨fr',S',m',A',hk,hat'⟩:=hq
        exact ihy kn ke kr r X m0 A0 S0 w0 W a0 fr' S' m' A' a' w' hWy hk hat' hG
      | exit id=>exact hq
      | ret=>exact hq
      | goto l=>exact hq
      | panic ch=>exact hq
      | outgrown=>exact hq
    · rename_i lo hlo
      rw [Option.bind_eq_some_iff] at h
      obtain ⟨o,h1,h2⟩:=h
      have hstart:At g0 X m A S w (wr x) a fr S m A a w:=⟨hat.rel,Ext.refl _ _ _ _,hat.fr,hat.defers,DT.refl _ _⟩
      refine wp_seq (wp_mono (ihx _ _ _ o X m A S w (wr x) a fr S m A a w (fun _ h=>h) h1 hstart (fun m' A' S' w' he=>hG m' A' S' w' (hat.ext.trans he))) (fun e a' w' hq=>?_))
      cases e with
      | normal=>
        obtain ⟨fr',S',m',A',hk,hat'⟩:=hq
        injection hk with hk; subst hk
        exact ihy kn ke kr r X m0 A0 S0 w0 W a0 _ S' m' A' a' w' hWy h2 (hat.join hWx hat') hG
      | exit id=>
        obtain ⟨fr',S',m',A',hk,hat'⟩:=hq
        injection hk with hk; subst hk
        exact ⟨_,S',m',A',h2,hat.join hWx hat'⟩
      | ret=>
        obtain ⟨fr',S',m',A',hk,hat'⟩:=hq
        injection hk with hk; subst hk
        exact ⟨_,S',m',A',h2,hat.join hWx hat'⟩
      | goto l=>exact hq.elim
      | panic ch=>exact hq.elim
      | outgrown=>exact hq.elim
  | cond x y z ihy ihz=>
    intro ρ kn ke kr r X m0 A0 S0 w0 W a0 fr S m A a w hW h hat hG
    have hWy:∀ t,t∈wr y→t∈W:=fun t ht=>hW t (by simp [wr,ht])
    have hWz:∀ t,t∈wr z→t∈W:=fun t ht=>hW t (by simp [wr,ht])
    simp only [Et] at h
    split at h <;> try (cases h; done)
    · rename_i t ht
      have hv:=hat.fr.eval x
      rw [ht] at hv
      generalize hc:a.eval x = vc at hv
      cases hv
      refine wp_cond hc ?_
      cases t with
      | true=>exact ihy kn ke kr r X m0 A0 S0 w0 W a0 fr S m A a w hWy h hat hG
      | false=>exact ihz kn ke kr r X m0 A0 S0 w0 W a0 fr S m A a w hWz h hat hG
    · rename_i ht
      have hv:=hat.fr.eval x
      rw [ht] at hv
      generalize hc:a.eval x = vc at hv
      cases hv with
      | ub t=>
        obtain ⟨h1,h2⟩:=Qz h
        refine wp_cond hc ?_
        cases t with
        | true=>exact ihy kn ke kr r X m0 A0 S0 w0 W a0 fr S m A a w hWy h1 hat hG
        | false=>exact ihz kn ke kr r X m0 A0 S0 w0 W a0 fr S m A a w hWz h2 hat hG
  | block id x ihx=>
    intro ρ kn ke kr r X m0 A0 S0 w0 W a0 fr S m A a w hW h hat hG
    simp only [Et] at h
    refine wp_block (wp_mono (ihx _ _ _ r X m0 A0 S0 w0 W a0 fr S m A a w hW h hat hG) (fun e a' w' hq=>?_))
    cases e with
    | exit id'=>
      obtain ⟨fr',S',m',A',hk,hat'⟩:=hq
      simp only [Exit.inBlock]
      dsimp only at hk
      split at hk
      · rename_i e1
        rw [if_pos e1]; exact ⟨fr',S',m',A',hk,hat'⟩
      · rename_i e1
        rw [if_neg e1]; exact ⟨fr',S',m',A',hk,hat'⟩
    | normal=>exact hq
    | ret=>exact hq
    | goto l=>exact hq
    | panic ch=>exact hq
    | outgrown=>exact hq
  | loop x ihx=>
    intro ρ kn ke kr r X m0 A0 S0 w0 W a0 fr S m A a w hW h hat hG
    simp only [Et] at h
    split at h <;> try (cases h; done)
    rename_i lo hlo
    rw [Option.bind_eq_some_iff] at h
    obtain ⟨o,h1,h2⟩:=h
    have hWx:∀ t,t∈wr x→t∈W:=hW
    have hstart:At g0 X m A S w (wr x) a (emb (wr x) lo (FH lo fr) 0 fr) S m A a w:=⟨hat.rel,Ext.refl _ _ _ _,WN hat.fr hat.rel (Ext.refl _ _ _ _) hat.fr (DT.refl _ _),hat.defers,DT.refl _ _⟩
    generalize hstep:(fun (l:List AV) (S:St)=>Et C run f x (ρ:=Dn) (fun fr S=>some (.norm (FH lo fr) S)) (fun id fr S=>some (.exit id (FH lo fr) S)) (fun fr S=>some (.ret (FH lo fr) S)) (emb (wr x) lo l 0 fr) S) = step at h1
    let J:Nat→Act→World→Prop:=fun n a1 w1=>fX g0 X m A S w (wr x) lo a fr step o n a1 w1
    have hJ0:J C.N a w:=⟨FH lo fr,S,m,A,h1,hstart⟩
    let μ:Act→World→Nat:=fun a1 w1=>KN fun n=>J n a1 w1
    refine wp_loop (fun a1 w1=>∃ n,J n a1 w1) μ ⟨_,hJ0⟩ (fun a1 w1 hI=>?_)
    have hμ:J (μ a1 w1) a1 w1:=O1 (J:=fun n=>J n a1 w1) hI
    obtain ⟨l,S1,m1,A1,e1,hat1⟩:=hμ
    obtain ⟨n,hn⟩:∃ n,μ a1 w1 = n + 1:=by
      cases hq:μ a1 w1 with
      | zero=>rw [hq] at e1; cases e1
      | succ n=>exact ⟨n,rfl⟩
    rw [hn] at e1
    simp only [AW,Option.bind_eq_some_iff] at e1
    obtain ⟨o1,g1,g2⟩:=e1
    rw [← hstep] at g1
    have hround:At g0 X m1 A1 S1 w1 (wr x) a1 (emb (wr x) lo l 0 fr) S1 m1 A1 a1 w1:=⟨hat1.rel,Ext.refl _ _ _ _,hat1.fr,hat1.defers,DT.refl _ _⟩
    -- a frame cut once more is the frame cut at the start
    have hemb:∀ (fr':List AV),emb (wr x) lo (FH lo fr') 0 (emb (wr x) lo l 0 fr) = emb (wr x) lo (FH lo fr') 0 fr:=by
      intro fr'
      apply List.ext_getElem?
      intro t
      rw [Ih,Ih,Ih]
      simp only [Nat.zero_add,Option.map_map]
      congr 1
      funext y
      simp only [Function.comp]
      cases lo.idxOf? t with
      | some j=>rfl
      | none=>
        dsimp only
        split
        · rfl
        · rfl
    have hjoin:∀ {fr' S' m' A' a' w'},At g0 X m1 A1 S1 w1 (wr x) a1 fr' S' m' A' a' w'→At g0 X m A S w (wr x) a (emb (wr x) lo (FH lo fr') 0 fr) S' m' A' a' w':=by
      intro fr' S' m' A' a' w' hh
      have:=hat1.join (lo:=lo) (fun _ h=>h) hh
      rwa [hemb fr'] at this
    have hout:∀ {fr' S' m' A' a' w'},At g0 X m1 A1 S1 w1 (wr x) a1 fr' S' m' A' a' w'→At g0 X m0 A0 S0 w0 W a0 (emb (wr x) lo (FH lo fr') 0 fr) S' m' A' a' w':=by
      intro fr' S' m' A' a' w' hh
      have h3:=hjoin hh
      exact ⟨h3.rel,hat.ext.trans h3.ext,h3.fr,h3.defers,hat.keeps.trans (h3.keeps.sub hWx)⟩
    refine wp_mono (ihx _ _ _ o1 X m1 A1 S1 w1 (wr x) a1 _ S1 m1 A1 a1 w1 (fun _ h=>h) g1 hround (fun m' A' S' w' he=>hG m' A' S' w' (hat.ext.trans (hat1.ext.trans he)))) (fun e a' w' hq=>?_)
    cases e with
    | normal=>
      obtain ⟨fr',S',m',A',hk,hat'⟩:=hq
      injection hk with hk; subst hk
      have hJn:J n a' w':=⟨_,S',m',A',g2,hjoin hat'⟩
      refine ⟨⟨n,hJn⟩,?_⟩
      have:μ a' w'≤n:=TE (J:=fun n=>J n a' w') hJn
      omega
    | exit id=>
      obtain ⟨fr',S',m',A',hk,hat'⟩:=hq
      injection hk with hk; subst hk
      injection g2 with g2; subst g2
      exact ⟨_,S',m',A',h2,hout hat'⟩
    | ret=>
      obtain ⟨fr',S',m',A',hk,hat'⟩:=hq
      injection hk with hk; subst hk
      injection g2 with g2; subst g2
      exact ⟨_,S',m',A',h2,hout hat'⟩
    | goto l=>exact hq.elim
    | panic ch=>exact hq.elim
    | outgrown=>exact hq.elim
  | _=>intro ρ kn ke kr r X m0 A0 S0 w0 W a0 fr S m A a w hW h hat hG; cases h
end Go.Rf
