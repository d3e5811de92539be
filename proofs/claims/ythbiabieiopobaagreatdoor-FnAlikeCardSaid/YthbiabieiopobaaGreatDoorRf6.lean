/- The operations, continued: '==', arithmetic, texts. -/
import Derived.Test.YthbiabieiopobaaGreatDoorRf5
import Derived.Laws.StructEq
set_option linter.unusedVariables false
set_option linter.unusedSimpArgs false
namespace Go.Rf
open Go
variable {g0:Nat} {X:Nat→Prop} {m:Bd} {A:Nat→Prop} {S:St} {w:World} {P:Program}
theorem Zn {t:TypeId} {a b:AV} {x y:Value} (ha:VR X m A S w a x) (hb:VR X m A S w b y) {r:Bool} (h:fV P t a b = some r) (d:Nat) (w':World) :
    (Op.equalIn (d + 1) t x y).run P w' = .ok r w':=by
  unfold fV at h
  split at h
  · rename_i hu
    cases ha; cases hb
    injection h with h; subst h
    exact run_equalIn_bool' w' d t _ _ hu
  · rename_i hu
    cases ha; cases hb
    split at h <;> try (cases h; done)
    rename_i hk
    injection h with h; subst h; subst hk
    exact run_equalIn_int w' d t _ _ _ _ hu
  · rename_i hu
    cases ha; cases hb
    injection h with h; subst h
    exact run_equalIn_string w' d t _ _ hu
  · cases h
def CR (X:Nat→Prop) (m:Bd) (A:Nat→Prop) (S:St) (w:World) (cs:List AV) (vs:Array Value):Prop:=
  cs.length = vs.size∧∀ (i:Nat) (a:AV) (v:Value),cs[i]? = some a→vs[i]? = some v→VR X m A S w a v
theorem CR.cut {cs:List AV} {vs:Array Value} (h:CR X m A S w cs vs) {o n:Nat} (hn:o + n≤cs.length):CR X m A S w ((cs.drop o).take n) (vs.extract o (o + n)):=by
  have:=h.1
  refine ⟨by simp; omega,fun i a v hi hv=>?_⟩
  rw [List.getElem?_take,List.getElem?_drop] at hi
  split at hi <;> try (cases hi; done)
  rw [Array.getElem?_extract] at hv
  split at hv <;> try (cases hv; done)
  exact h.2 _ a v hi hv
theorem Sr {eq:TypeId→List AV→List AV→Option Bool} {d:Nat} (heq:∀ t xs ys r vx vy (w':World),eq t xs ys = some r→CR X m A S w xs vx→CR X m A S w ys vy →
      (Op.equalIn (d + 1) t (.agg vx) (.agg vy)).run P w' = .ok r w') {xs ys:List AV} {vx vy:Array Value} (hx:CR X m A S w xs vx) (hy:CR X m A S w ys vy) :
    ∀ (fs:List Field) (r:Bool) (w':World),X5 P eq xs ys fs = some r→(Op.eqFields (d + 1) vx vy fs).run P w' = .ok r w'
  | [],r,w',h=>by simp [X5] at h; subst h; simp [Op.eqFields]
  | f :: fs,r,w',h=>by
    simp only [X5] at h
    split at h <;> try (cases h; done)
    rename_i hname
    split at h <;> try (cases h; done)
    rename_i a b h1 h2
    injection h with h; subst h
    split at h1 <;> try (cases h1; done)
    rename_i D hD
    have ih:=Sr heq hx hy fs b w' h2
    have hfield:(do let a ← part f.type vx f.offset; let b ← part f.type vy f.offset; Op.equalIn (d + 1) f.type a b:Sem Bool).run P w' = .ok a w':=by
      split at h1
      · rename_i hagg
        split at h1 <;> try (cases h1; done)
        rename_i hle
        have:=heq _ _ _ _ _ _ w' h1 (hx.cut hle.1) (hy.cut hle.2)
        simpa [part,Ef hD,hagg,Fg hD] using this
      · rename_i hagg
        split at h1 <;> try (cases h1; done)
        rename_i p q hp hq
        have e1:f.offset < vx.size:=by rw [← hx.1]; exact (List.getElem?_eq_some_iff.1 hp).1
        have e2:f.offset < vy.size:=by rw [← hy.1]; exact (List.getElem?_eq_some_iff.1 hq).1
        have:=Zn (hx.2 _ _ _ hp (Array.getElem?_eq_getElem e1)) (hy.2 _ _ _ hq (Array.getElem?_eq_getElem e2)) h1 d w'
        simpa [part,Ef hD,hagg,e1,e2] using this
    simp only [Sem.run_bind] at hfield
    simp only [Op.eqFields,ne_eq,hname,not_false_eq_true,if_true,Sem.run_bind]
    generalize (part f.type vx f.offset).run P w' = r1 at hfield ⊢
    cases r1 with
    | halt x w1=>simp at hfield
    | ok u w1=>
      simp only [Result.andThen_ok] at hfield ⊢
      generalize (part f.type vy f.offset).run P w1 = r2 at hfield ⊢
      cases r2 with
      | halt x w2=>simp at hfield
      | ok u2 w2=>
        simp only [Result.andThen_ok] at hfield ⊢
        rw [hfield]
        simp only [Result.andThen_ok]
        cases a
        · simp
        · simpa using ih
theorem Sm:∀ (d D:Nat) (t:TypeId) (xs ys:List AV) (r:Bool) (vx vy:Array Value) (w':World),X4 P d t xs ys = some r→d < D→CR X m A S w xs vx→CR X m A S w ys vy →
    (Op.equalIn D t (.agg vx) (.agg vy)).run P w' = .ok r w'
  | 0,D,t,xs,ys,r,vx,vy,w',h,_,_,_=>by simp [X4] at h
  | d + 1,D,t,xs,ys,r,vx,vy,w',h,hd,hx,hy=>by
    simp only [X4] at h
    split at h <;> try (cases h; done)
    rename_i fs hu
    split at h <;> try (cases h; done)
    rename_i hs
    obtain ⟨D,rfl⟩:∃ D',D = D' + 2:=⟨D - 2,by omega⟩
    have hf:P.fieldsOf t = fs:=by simp [Program.fieldsOf,hu]
    rw [run_equalIn_struct w' (D + 1) t vx vy (by rw [hf]; exact hu) (by simpa using hs),hf]
    exact Sr (fun t xs ys r vx vy w' h hx hy=>Sm d (D + 1) t xs ys r vx vy w' h (by omega) hx hy) hx hy fs.toList r w' h
theorem Zm {t:TypeId} {a b:AV} {x y:Value} (ha:VR X m A S w a x) (hb:VR X m A S w b y) {r:Bool} (h:OZ P t a b = some r) :
    (Op.equal t x y).run P w = .ok r w:=by
  unfold OZ at h
  simp only [Op.equal,Op.maxDepth]
  split at h <;> try (cases h; done)
  · rename_i hu; cases ha; cases hb; injection h with h; subst h; exact run_equalIn_bool' w 9999 t _ _ hu
  · rename_i hu
    split at h <;> try (cases h; done)
    cases ha with
    | agg cs vs hl hce hall=>cases hb with
      | agg cs' vs' hl' hce' hall'=>exact Sm 20 10000 t _ _ r vs vs' w h (by omega) ⟨hl,hall⟩ ⟨hl',hall'⟩
  all_goals (rename_i hu; cases ha; cases hb; injection h with h; subst h; show (Op.equalIn (9999 + 1) t _ _).run P w = _; generalize 9999 = D; simp [Op.equalIn,run_underlying hu])
theorem Zj (hr:Rel g0 X m A S w) {t:TypeId} {a v:AV} {x:Value} (ha:VR X m A S w a x) {ox oy:Operand} (h:Ec P t a = some v) :
    Ok P g0 X m A S w (do eqGuard .eql t ox oy x (.slice none 0 0); binOp .eql t x (.slice none 0 0)) v S:=by
  unfold Ec at h
  split at h <;> try (cases h; done)
  rename_i e hu
  have key:∀ (q:Option Addr) (l c:Nat),x = .slice q l c→(do eqGuard .eql t ox oy x (.slice none 0 0); binOp .eql t x (.slice none 0 0)).run P w = .ok (.bool q.isNone) w:=by
    rintro q l c rfl
    have he:(Op.equal t (.slice q l c) (.slice none 0 0)).run P w = .ok q.isNone w:=by
      show (Op.equalIn (9999 + 1) t _ _).run P w = _
      generalize 9999 = D
      cases q <;> simp [Op.equalIn,run_underlying hu]
    simp [eqGuard,binOp,he]
  split at h <;> try (cases h; done)
  · injection h with h; subst h
    cases ha with
    | rsl l fl es blk off s cap val=>exact Ok.stay hr (key _ _ _ rfl) (.bool _)
  · injection h with h; subst h
    cases ha with
    | rsl0 l fl a cap=>exact Ok.stay hr (key _ _ _ rfl) (.ub _)
    | rsl l fl es blk off s cap val=>exact Ok.stay hr (key _ _ _ rfl) (.ub _)
  · injection h with h; subst h
    cases ha with
    | bsl b i n L fl ad cap B=>exact Ok.stay hr (key _ _ _ rfl) (.bool _)
theorem Zp (hr:Rel g0 X m A S w) {op:BinOp} {t:TypeId} {a b v:AV} {x y:Value} (ha:VR X m A S w a x) (hb:VR X m A S w b y) {ox oy:Operand}
    (hnil:a = .nili→b = .nili→(∃ c,ox = .const c)∨∃ c,oy = .const c) (h:D1 P op t a b = some v) :
    Ok P g0 X m A S w (do eqGuard op t ox oy x y; binOp op t x y) v S:=by
  unfold D1 at h
  split at h
  · -- whole numbers
    cases ha; cases hb
    by_cases hsh:YA op = true
    · rw [hsh] at h
      simp only [cond_true,ash] at h
      split at h <;> try (cases h; done)
      rename_i hneg
      cases op <;> simp [YA] at hsh <;> simp only [Option.some.injEq] at h <;> subst h <;> (refine Ok.stay hr ?_ (.int _ _); simp [eqGuard,binOp,Op.shift,hneg])
    rw [show YA op = false by simpa using hsh] at h
    simp only [cond_false] at h
    split at h <;> try (cases h; done)
    rename_i hk; subst hk
    cases op <;> simp only [Option.some.injEq,reduceCtorEq] at h <;>
      first
        | (subst h; exact Ok.stay hr (by simp [eqGuard,binOp,Op.intArith,Op.intCmp]; rfl) (by constructor))
        | (subst h; exact Ok.stay hr (by simp [eqGuard,binOp,Op.intArith,Op.intCmp]) (by constructor))
        | (simp only [Ss,Option.some.injEq] at h; subst h; refine Ok.stay hr ?_ (.int _ _); simp [eqGuard,binOp,Op.intBits])
        | (split at h <;> first
            | (cases h; done)
            | (rename_i hy; injection h with h; subst h; exact Ok.stay hr (by simp [eqGuard,binOp,Op.intDiv,hy]; rfl) (by constructor)))
        | (cases h; done)
  · cases ha; cases hb
    cases op <;> simp only [Option.some.injEq,reduceCtorEq] at h <;>
      first
        | (subst h; exact Ok.stay hr (by rfl) (by constructor))
        | (split at h <;> first
            | (cases h; done)
            | (rename_i hy; injection h with h; subst h
               rename_i s u
               have hy':¬ (((s.size + u.size:Nat):Int) > IntKind.i64.max):=by
                 have:IntKind.i64.max = 9223372036854775807:=rfl
                 rw [this]; omega
               exact Ok.stay hr (by simp only [eqGuard,binOp,Op.stringOp,Sem.run_bind,if_neg hy']; rfl) (by constructor)))
        | (cases h; done)
  · rename_i hni hns
    have hg : op = .eql∨op = .neq→∀ r,OZ P t a b = some r→(eqGuard op t ox oy x y).run P w = .ok () w:=by
      intro hop r hr'
      unfold OZ at hr'
      split at hr' <;> try (cases hr'; done)
      · cases ha; cases hb; rcases hop with rfl | rfl <;> simp [eqGuard]
      · rename_i xs ys hu
        split at hr' <;> try (cases hr'; done)
        rename_i hgt
        cases ha with
        | agg cs vs hl hce hall=>cases hb with
          | agg cs' vs' hl' hce' hall'=>rcases hop with rfl | rfl <;> simp [eqGuard,hgt]
      all_goals first
        | (cases ha; cases hb; rcases hop with rfl | rfl <;> (simp [eqGuard]; done))
        | (cases ha; cases hb
           rcases hnil rfl rfl with ⟨c,rfl⟩ | ⟨c,rfl⟩ <;> rcases hop with rfl | rfl <;> simp [eqGuard])
    have hb':∀ r,OZ P t a b = some r→(op = .eql→(binOp op t x y).run P w = .ok (.bool r) w)∧(op = .neq→(binOp op t x y).run P w = .ok (.bool !r) w):=by
      intro r hr'
      have he:=Zm ha hb hr'
      unfold OZ at hr'
      split at hr' <;> try (cases hr'; done)
      all_goals (cases ha; cases hb; constructor <;> (rintro rfl; simp [binOp,he]))
    split at h <;> try (cases h; done)
    · rw [Option.map_eq_some_iff] at h
      obtain ⟨r,h1,h2⟩:=h
      subst h2
      exact Ok.stay hr (by simp [hg (.inl rfl) r h1,(hb' r h1).1 rfl]) (.bool _)
    · rw [Option.map_eq_some_iff] at h
      obtain ⟨r,h1,h2⟩:=h
      subst h2
      exact Ok.stay hr (by simp [hg (.inr rfl) r h1,(hb' r h1).2 rfl]) (.bool _)
end Go.Rf
