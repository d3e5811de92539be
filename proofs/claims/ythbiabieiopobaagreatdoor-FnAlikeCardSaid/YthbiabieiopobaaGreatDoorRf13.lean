/- Every operation; regions in the text's order. -/
import Derived.Test.YthbiabieiopobaaGreatDoorRf12
set_option linter.unusedVariables false
set_option linter.unusedSimpArgs false
namespace Go.Rf
open Go
variable {g0:Nat} {X:Nat→Prop} {m:Bd} {A:Nat→Prop} {S:St} {w:World}
def Eh (P:Program) (g0:Nat) (X:Nat→Prop) (m:Bd) (A:Nat→Prop) (S:St) (w:World) (o:Oper) (a:Act) (v:AV) (S1:St):Prop:=
 ∀ (K:Act→World→Prop) (Q:Exit→Act→World→Prop),(∀ m' A' w' cv,Rel g0 X m' A' S1 w'→Ext m A S w m' A' S1 w'→VR X m' A' S1 w' v cv→K (a.put o.dst cv) w')→o.wp P a w K Q
theorem Eh.of_ok {P:Program} {o:Oper} {a:Act} {s:Sem Value} {v:AV} {S1:St} (he:execOp a.eval o = (do pure (.value (← s)))) (h:Ok P g0 X m A S w s v S1):Eh P g0 X m A S w o a v S1:=by
 obtain ⟨m',A',w',cv,hrun,h1,h2,h3⟩:=h
 intro K Q hK
 unfold Oper.wp
 rw [he]
 simp only [Sem.run_bind,hrun,Result.andThen_ok,Sem.run_pure]
 exact hK m' A' w' cv h1 h2 h3
theorem Eh.of_value {P:Program} {o:Oper} {a:Act} {v:AV} {cv:Value} (hr:Rel g0 X m A S w) (he:(execOp a.eval o).run P w = .ok (.value cv) w) (h:VR X m A S w v cv):Eh P g0 X m A S w o a v S:=by
 intro K Q hK
 unfold Oper.wp
 rw [he]
 exact hK m A w cv hr (Ext.refl _ _ _ _) h
theorem BO {α:Type} {x:Option α} {S S1:St} {v:α} (h:x.map (·,S) = some (v,S1)):x = some v∧S1 = S:=by
 rw [Option.map_eq_some_iff] at h
 obtain ⟨y,h1,h2⟩:=h
 injection h2 with h2 h3; subst h2; exact ⟨h1,h3.symm⟩
theorem YG {X:Nat→Prop} {m:Bd} {A:Nat→Prop} {S:St} {w:World} {f:FuncId} {cap:List AV} {v:Value} (h:VR X m A S w (.fn f cap) v) :
  ∃ vs,v = .func (.func f) #[] vs∧CR X m A S w cap vs:=by
 cases h with
 | fn f cs vs hl hall=>exact ⟨vs,rfl,hl,hall⟩
theorem CR.map {fr:List AV} {a:Act} (hf:FR X m A S w fr a) (xs:Array Operand):CR X m A S w (xs.toList.map (aev fr)) (xs.map a.eval):=by
 refine ⟨by simp,fun i x v hi hv=>?_⟩
 simp only [List.getElem?_map,Array.getElem?_toList,Option.map_eq_some_iff] at hi
 obtain ⟨o,ho,rfl⟩:=hi
 simp only [Array.getElem?_map,ho,Option.map_some,Option.some.injEq] at hv
 subst hv
 exact hf.eval o
theorem CR.append {as_ bs:List AV} {us vs:Array Value} (h:CR X m A S w as_ us) (k:CR X m A S w bs vs):CR X m A S w (as_++bs) (us++vs):=by
 refine ⟨by simp [h.1,k.1],fun i x v hi hv=>?_⟩
 rw [List.getElem?_append] at hi
 rw [Array.getElem?_append] at hv
 rw [h.1] at hi
 split at hi
 ·rename_i hlt
  rw [if_pos hlt] at hv
  exact h.2 i x v hi hv
 ·rename_i hlt
  rw [if_neg hlt] at hv
  exact k.2 _ x v hi hv
theorem OV.map {fr:List AV} {a:Act} (hf:FR X m A S w fr a) (x:Option Operand):OV X m A S w (x.map (aev fr)) (x.map a.eval):=by
 cases x with
 | none=>exact .inl ⟨rfl,rfl⟩
 | some o=>exact .inr ⟨_,_,rfl,rfl,hf.eval o⟩
theorem Og {fr:List AV} {a:Act} (hf:FR X m A S w fr a) (parts:Array (Nat×Operand)):(parts.toList.map fun (i,x)=>(i,aev fr x)).length = (parts.map fun (i,x)=>(i,a.eval x)).toList.length ∧
  ∀ (j i:Nat) (x:AV) (i':Nat) (y:Value),(parts.toList.map fun (i,x)=>(i,aev fr x))[j]? = some (i,x)→(parts.map fun (i,x)=>(i,a.eval x)).toList[j]? = some (i',y)→i = i'∧VR X m A S w x y:=by
 refine ⟨by simp,fun j i x i' y h h'=>?_⟩
 simp only [List.getElem?_map,Option.map_eq_some_iff,Array.toList_map] at h h'
 obtain ⟨⟨i1,o1⟩,h1,h2⟩:=h
 obtain ⟨⟨i2,o2⟩,h3,h4⟩:=h'
 rw [h1] at h3
 injection h3 with h3; injection h3 with e1 e2; subst e1; subst e2
 injection h2 with e3 e4; injection h4 with e5 e6
 subst e3; subst e4; subst e5; subst e6
 exact ⟨rfl,hf.eval o1⟩
def Di (P : Program) : Prop := ∀ (g : FuncId) (fn : Func), P.funcs[g]? = some fn → (fn.name == "runtime.NumGoroutine") = false
theorem Qx {C:Cfg} (hr:Rel g0 X m A S w) {b:Builtin} {ts:Array TypeId} {ty:TypeId} {consts:Array Bool} {args:List AV} {cargs:Array Value} (ha:CR X m A S w args cargs) {v:AV} {S1:St}
  (h:G9 C b ts args S = some (v,S1)):∃ s,(builtin b ts ty consts cargs) = (do pure (.value (← s)))∧Ok C.P g0 X m A S w s v S1:=by
 obtain ⟨l⟩:=cargs
 unfold G9 at h
 split at h
 ·-- len
  split at h <;> try (cases h; done)
  rename_i t x ht
  match l,ha.1 with
  | [cx],_=>
   have hx:=ha.2 0 x cx rfl rfl
   refine ⟨_,rfl,?_⟩
   split at h <;> try (cases h; done)
   ·rename_i e hu
    obtain ⟨h1,rfl⟩:=BO h
    exact Zl hr hx ht hu h1
   ·rename_i hu
    obtain ⟨h1,rfl⟩:=BO h
    exact Ya hr hx ht hu h1
 ·-- append
  split at h <;> try (cases h; done)
  rename_i t t' s x ht ht'
  split at h <;> try (cases h; done)
  rename_i e d hu hu'
  split at h <;> try (cases h; done)
  rename_i i hi
  split at h <;> try (cases h; done)
  rename_i news hnews
  split at h <;> try (cases h; done)
  rename_i hc
  match l,ha.1 with
  | [cs,cx],_=>
   have hs:=ha.2 0 s cs rfl rfl
   have hx:=ha.2 1 x cx rfl rfl
   refine ⟨_,rfl,?_⟩
   have hd:FQ d = true∧((∀ e∈news,e.length = i.size)→Uk C.P X m A S w i.size news cx):=by
    split at hnews
    ·exact ⟨rfl,fun hl=>Ni hr hx hc.1 hnews hl⟩
    ·split at hnews <;> try (cases hnews; done)
     split at hnews <;> try (cases hnews; done)
     rename_i h1
     injection hnews with hnews
     cases hx
     refine ⟨rfl,fun _=>?_⟩
     rw [h1,← hnews]
     exact VH _
    ·cases hnews
   exact fS hr hs ht ht' hu hu' hd.1 hi hc.1 hc.2 hd.2 h
 ·-- clear
  split at h <;> try (cases h; done)
  rename_i t x ht
  match l,ha.1 with
  | [cx],_=>exact ⟨_,rfl,Xb hr (ha.2 0 x cx rfl rfl) ht h⟩
 ·obtain ⟨h1,rfl⟩:=BO h
  exact ⟨_,rfl,VT hr (mn:=false) ha.1 ha.2 h1 ts ty⟩
 ·obtain ⟨h1,rfl⟩:=BO h
  exact ⟨_,rfl,VT hr (mn:=true) ha.1 ha.2 h1 ts ty⟩
 ·split at h <;> try (cases h; done)
  rename_i t x ht
  match l,ha.1 with
  | [cx],_=>
   split at h <;> try (cases h; done)
   rename_i e hu
   obtain ⟨h1,rfl⟩:=BO h
   exact ⟨_,rfl,eV hr (ha.2 0 x cx rfl rfl) ht hu h1⟩
 ·cases h
theorem NH {C:Cfg} {G:World→Prop} (hN:Di C.P) {run:FuncId→List AV→St→Option (AV×St)} (hrun:Gt C.P g0 G run) {f:FuncId} (hr:Rel g0 X m A S w) (hG:G w)
  {fr:List AV} {a:Act} (hf:FR X m A S w fr a) {o:Oper} {v:AV} {S1:St} (h:aop C run f fr S o = some (v,S1)):Eh C.P g0 X m A S w o a v S1:=by
 obtain ⟨dst,op,type,pos,after,guard⟩:=o
 cases op <;> simp only [aop] at h
 case move x=>injection h with h; injection h with h1 h2; subst h1; subst h2; exact Eh.of_value hr rfl (hf.eval x)
 case assign x=>injection h with h; injection h with h1 h2; subst h1; subst h2; exact Eh.of_value hr rfl (hf.eval x)
 case pick c x y=>
  split at h <;> try (cases h; done)
  rename_i t ht
  injection h with h; injection h with h1 h2; subst h1; subst h2
  have hc:=hf.eval c
  rw [ht] at hc
  generalize hv:a.eval c = vc at hc
  cases hc
  refine Eh.of_value (cv:=if t then a.eval x else a.eval y) hr (by simp [execOp,hv,asBool]) ?_
  cases t
  ·exact hf.eval y
  ·exact hf.eval x
 case alloc t=>
  split at h <;> try (cases h; done)
  rename_i z hz
  split at h <;> try (cases h; done)
  rename_i h0
  injection h with h
  have:=X1 (P:=C.P) hr hz h0
  rw [h] at this
  exact Eh.of_ok rfl this
 case box t x=>
  split at h <;> try (cases h; done)
  rename_i h0
  injection h with h
  have:=e9 (P:=C.P) hr (hf.eval x) h0 t
  rw [h] at this
  exact Eh.of_ok rfl this
 case build t parts=>
  obtain ⟨h1,rfl⟩:=BO h
  obtain ⟨p1,p2⟩:=Og hf parts
  have:=Xh (P:=C.P) hr p1 p2 h1
  exact Eh.of_ok rfl (by simpa only [Array.toArray_toList] using this)
 case buildSlice t len parts=>
  obtain ⟨p1,p2⟩:=Og hf parts
  have h:=LN h
  have:=Ub (P:=C.P) hr p1 p2 h
  exact Eh.of_ok rfl (by simpa only [Array.toArray_toList] using this)
 case load t p=>
  split at h <;> try (cases h; done)
  rename_i d hu
  have h':(if EZ d then ldA S (aev fr p) (C.P.cellsOf t) else ld1 S (aev fr p)) = some v∧S1 = S:=by
   split at h
   ·obtain ⟨h1,h2⟩:=BO h
    rename_i hd
    rw [if_pos hd]; exact ⟨h1,h2⟩
   ·obtain ⟨h1,h2⟩:=BO h
    rename_i hd
    rw [if_neg hd]; exact ⟨h1,h2⟩
  obtain ⟨h1,rfl⟩:=h'
  exact Eh.of_ok rfl (Y7 hr (hf.eval p) hu h1)
 case store t p x=>
  split at h <;> try (cases h; done)
  rename_i hc
  rw [Option.map_eq_some_iff] at h
  obtain ⟨S',h1,h2⟩:=h
  injection h2 with h2 h3; subst h2; subst h3
  obtain ⟨hc1,hc2⟩:=hc
  have hinf:∃ i,C.P.info? t = some i:=by
   cases hi:C.P.info? t with
   | none=>simp [Program.cellsOf,hi] at hc2
   | some i=>exact ⟨i,rfl⟩
  obtain ⟨i,hi⟩:=hinf
  have hcs:C.P.cellsOf t = i.size:=by simp [Program.cellsOf,hi]
  obtain ⟨w',k1,k2,k3⟩:=Uz hr (hf.eval p) (hf.eval x) hi (by rw [← hcs]; exact hc1) (by rw [← hcs]; exact hc2) h1
  intro K Q hK
  unfold Oper.wp
  simp only [execOp,Sem.run_bind,k1,Result.andThen_ok,Sem.run_pure]
  exact hK m A w' undef k2 k3 VR.und
 case nilCheck x=>
  have hx:=hf.eval x
  split at h <;> try (cases h; done)
  ·rename_i l cs hv
   injection h with h; injection h with h1 h2; subst h1; subst h2
   rw [hv] at hx
   generalize hvc:a.eval x = vc at hx
   cases hx with
   | rp l cs blk off val q1 q2 q3 q4 q5=>exact Eh.of_value hr (by simp [execOp,hvc]) (.rp l cs blk off val q1 q2 q3 q4 q5)
  ·rename_i b i o n L hv
   injection h with h; injection h with h1 h2; subst h1; subst h2
   rw [hv] at hx
   generalize hvc:a.eval x = vc at hx
   cases hx with
   | bp b i o n L ad B q1 q2 q3=>exact Eh.of_value hr (by simp [execOp,hvc]) (.bp b i o n L ad B q1 q2 q3)
  ·rename_i g cs hv
   injection h with h; injection h with h1 h2; subst h1; subst h2
   rw [hv] at hx
   generalize hvc:a.eval x = vc at hx
   cases hx with
   | fn g cs vs q1 q2=>exact Eh.of_value hr (by simp [execOp,hvc]) (.fn g cs vs q1 q2)
 case binOp op t x y yt=>
  obtain ⟨h1,rfl⟩:=BO h
  by_cases hnc:Nv op y = true
  ·rw [hnc] at h1
   simp only [cond_true] at h1
   unfold Nv at hnc
   split at hnc <;> try (cases hnc; done)
   exact Eh.of_ok rfl (Zj hr (hf.eval x) h1)
  rw [show Nv op y = false by simpa using hnc] at h1
  simp only [cond_false] at h1
  have h2:D1 C.P op t (aev fr x) (aev fr y) = some v∧(aev fr x = .nili→aev fr y = .nili→(∃ c,x = .const c)∨∃ c,y = .const c):=by
   split at h1
   ·split at h1 <;> try (cases h1; done)
    rename_i hnn
    exact ⟨h1,fun e1 e2=>absurd e2 (hnn e1)⟩
   ·rename_i hnt
    refine ⟨h1,fun e1 e2=>?_⟩
    cases x with
    | const c=>exact .inl ⟨c,rfl⟩
    | tmp t1=>cases y with
     | const c=>exact .inr ⟨c,rfl⟩
     | tmp t2=>exact absurd rfl (hnt t1 t2 rfl)
     | global g=>simp [aev] at e2
     | func g=>simp [aev] at e2
    | global g=>simp [aev] at e1
    | func g=>simp [aev] at e1
  exact Eh.of_ok rfl (Zp hr (hf.eval x) (hf.eval y) h2.2 h2.1)
 case unOp op t x=>
  obtain ⟨h1,rfl⟩:=BO h
  exact Eh.of_ok rfl (fR hr (hf.eval x) h1)
 case convert s d x=>
  obtain ⟨h1,rfl⟩:=BO h
  exact Eh.of_ok rfl (YW hr (hf.eval x) h1)
 case makeFunc fn first cap=>
  split at h <;> try (cases h; done)
  rename_i g
  split at h <;> try (cases h; done)
  rename_i hs
  injection h with h; injection h with h1 h2; subst h1; subst h2
  have hfe:first = #[]:=Array.eq_empty_of_size_eq_zero hs
  subst hfe
  have hcr:=CR.map hf cap
  exact Eh.of_value hr (by simp [execOp,Instr.makeFunc]) (.fn g _ _ hcr.1 hcr.2)
 case makeSlice t l c=>exact Eh.of_ok rfl (VU hr (hf.eval l) (hf.eval c) h)
 case slice t x lo hi mx=>
  split at h <;> try (cases h; done)
  ·rename_i e hu
   split at h <;> try (cases h; done)
   rename_i h0
   split at h <;> try (cases h; done)
   rename_i hns
   obtain ⟨h1,rfl⟩:=BO h
   exact Eh.of_ok rfl (Uf hr (hf.eval x) (OV.map hf lo) (OV.map hf hi) (OV.map hf mx) hu h0 hns h1)
  ·rename_i hu
   split at h <;> try (cases h; done)
   rename_i s hs
   obtain ⟨h1,rfl⟩:=BO h
   have hx:=hf.eval x
   rw [hs] at hx
   generalize hvc:a.eval x = vc at hx
   cases hx
   refine Eh.of_ok ?_ (Q7 hr (OV.map hf lo) (OV.map hf hi) (OV.map hf mx) hu h1)
   simp [execOp,hvc]
 case fieldAddr t p i=>
  split at h <;> try (cases h; done)
  rename_i fs hu
  split at h <;> try (cases h; done)
  rename_i g hg
  split at h <;> try (cases h; done)
  rename_i h0
  obtain ⟨h1,rfl⟩:=BO h
  exact Eh.of_ok rfl (Tc hr (hf.eval p) hu hg h0 h1)
 case field t x i=>
  split at h <;> try (cases h; done)
  rename_i fs hu
  split at h <;> try (cases h; done)
  rename_i g hg
  split at h <;> try (cases h; done)
  rename_i d hd
  obtain ⟨h1,rfl⟩:=BO h
  exact Eh.of_ok rfl (WJ hr (hf.eval x) hu hg hd h1)
 case indexAddr t x i=>
  split at h <;> try (cases h; done)
  rename_i e hu
  split at h <;> try (cases h; done)
  rename_i h0
  obtain ⟨h1,rfl⟩:=BO h
  exact Eh.of_ok rfl (SY hr (hf.eval x) (hf.eval i) hu h0 h1)
 case index t x i=>
  split at h <;> try (cases h; done)
  rename_i hu
  obtain ⟨h1,rfl⟩:=BO h
  exact Eh.of_ok rfl (SI hr (hf.eval x) (hf.eval i) hu h1)
 case extract t i=>
  split at h <;> try (cases h; done)
  rename_i vs hv
  obtain ⟨h1,rfl⟩:=BO h
  have hx:=hf.eval t
  rw [hv] at hx
  exact Eh.of_ok rfl (Qg hr hx h1)
 case call c=>
  obtain ⟨callee,args,ats⟩:=c
  cases callee with
  | builtin b=>
   dsimp only at h
   obtain ⟨s,e1,e2⟩:=Qx (ty:=type) (consts:=args.map fun | .const _=>true | _=>false) hr (CR.map hf args) h
   refine Eh.of_ok ?_ e2
   simp only [execOp,resolve,pure_bind,invoke]
   exact e1
  | invoke r mth=>cases h
  | value g=>
   dsimp only at h
   split at h <;> try (cases h; done)
   rename_i gf cap hg
   have hgv:=hf.eval g
   rw [hg] at hgv
   obtain ⟨vs,hv,hcr⟩:=YG hgv
   obtain ⟨⟨fn,c,hfn,hbody⟩,hcall⟩:=X7 rfl hrun hr hG ((CR.map hf args).append hcr) h
   intro K Q hK
   unfold Oper.wp
   have hent:=Go.Proofs.enters_of hfn (hN gf fn hfn) hbody
   have hrunc:(execOp a.eval ⟨dst,.call ⟨.value g,args,ats⟩,type,pos,after,guard⟩).run C.P w = .ok (.enter gf (args.map a.eval++vs)) w:=by
    have:=hent (args.map a.eval++vs) w
    simp only [execOp,resolve,hv,Deferred.ofValue,pure_bind,invoke,Array.empty_append]
    exact this
   rw [hrunc]
   show Calls C.P gf (args.map a.eval++vs) w _
   refine hcall.mono ?_
   rintro e w' ⟨cv,m',A',rfl,k1,k2,k3⟩
   exact hK m' A' w' cv k1 k2 k3
 all_goals (cases h)
end Go.Rf
