/- What the library's texts answer, told by contracts. -/
import Derived.Test.YtkbdneigeghbaaaDoorRh3
set_option linter.unusedVariables false
set_option linter.unusedSimpArgs false
namespace Go.Rf
open Go
def extSB (F:ByteArray→UInt8→Int) (args:List AV) (S:St):Option (AV×St):=match args with
 | [.str s,.str t]=>match t.data.toList with
  | [c]=>some (.int .i64 (F s c),S)
  | _=>none
 | _=>none
theorem CR.two {X:Nat→Prop} {m:BMap} {A:Nat→Prop} {S:St} {w:World} {a b:AV} {cargs:Array Value} (h:CR X m A S w [a,b] cargs):∃ x y,cargs = #[x,y]∧VR X m A S w a x∧VR X m A S w b y:=by
 obtain ⟨h1,h2⟩:=h
 obtain ⟨l⟩:=cargs
 match l,h1 with
 | [x,y],_=>exact ⟨x,y,rfl,h2 0 a x rfl rfl,h2 1 b y rfl rfl⟩
 | [],h=>simp at h
 | [_],h=>simp at h
 | _::_::_::_,h=>simp at h
section
variable {ρ τ:Type} {L:List En} {m:Option τ} {P:τ→ρ→Prop}
theorem argF1 {τ:Type} {run:RunT} {g:FuncId} {mt:Option τ} {Pt:τ→AV×St→Prop} {S:St} {c1:AV} {f1:Bool→AV} (h1:CV 8 L false c1 f1) (hS:HP S L) (h:∀ l1,Fit (run g [f1 l1] []) mt Pt):Fit (run g ([c1].map (fz S)) []) mt Pt:=args1 (M:=fun a=>Fit (run g a []) mt Pt) h1 hS h
theorem aF1 {τ:Type} {run:RunT} {g:FuncId} {mt:Option τ} {Pt:τ→AV×St→Prop} {c1:AV} {f1:Bool→AV} (h1:CV 8 L false c1 f1) (h:∀ l1,Fit (run g [f1 l1] []) mt Pt):∀ S,HP S L→Fit (run g ([c1].map (fz S)) []) mt Pt:=fun S hS=>argF1 h1 hS h
theorem argF2 {τ:Type} {run:RunT} {g:FuncId} {mt:Option τ} {Pt:τ→AV×St→Prop} {S:St} {c1 c2:AV} {f1 f2:Bool→AV} (h1:CV 8 L false c1 f1) (h2:CV 8 L false c2 f2) (hS:HP S L) (h:∀ l1 l2,Fit (run g [f1 l1,f2 l2] []) mt Pt):Fit (run g ([c1,c2].map (fz S)) []) mt Pt:=args2 (M:=fun a=>Fit (run g a []) mt Pt) h1 h2 hS h
theorem aF2 {τ:Type} {run:RunT} {g:FuncId} {mt:Option τ} {Pt:τ→AV×St→Prop} {c1 c2:AV} {f1 f2:Bool→AV} (h1:CV 8 L false c1 f1) (h2:CV 8 L false c2 f2) (h:∀ l1 l2,Fit (run g [f1 l1,f2 l2] []) mt Pt):∀ S,HP S L→Fit (run g ([c1,c2].map (fz S)) []) mt Pt:=fun S hS=>argF2 h1 h2 hS h
theorem argF3 {τ:Type} {run:RunT} {g:FuncId} {mt:Option τ} {Pt:τ→AV×St→Prop} {S:St} {c1 c2 c3:AV} {f1 f2 f3:Bool→AV} (h1:CV 8 L false c1 f1) (h2:CV 8 L false c2 f2) (h3:CV 8 L false c3 f3) (hS:HP S L) (h:∀ l1 l2 l3,Fit (run g [f1 l1,f2 l2,f3 l3] []) mt Pt):Fit (run g ([c1,c2,c3].map (fz S)) []) mt Pt:=args3 (M:=fun a=>Fit (run g a []) mt Pt) h1 h2 h3 hS h
theorem aF3 {τ:Type} {run:RunT} {g:FuncId} {mt:Option τ} {Pt:τ→AV×St→Prop} {c1 c2 c3:AV} {f1 f2 f3:Bool→AV} (h1:CV 8 L false c1 f1) (h2:CV 8 L false c2 f2) (h3:CV 8 L false c3 f3) (h:∀ l1 l2 l3,Fit (run g [f1 l1,f2 l2,f3 l3] []) mt Pt):∀ S,HP S L→Fit (run g ([c1,c2,c3].map (fz S)) []) mt Pt:=fun S hS=>argF3 h1 h2 h3 hS h
def remO (x y:Int):Option Int:=if y = 0 then none else some (x.tmod y)
def quoO (k:IntKind) (x y:Int):Option Int:=if y = 0 then none else some (k.wrap (x.tdiv y))
theorem q_rem {G:Program} {t:TypeId} {a b:Int} {kk:IntKind} {k:AV→St→Option ρ} {mk:Int→Option τ} (hk:∀ s,remO a b = some s→Okh L (k (.int kk s)) (mk s) P):Okh L (fun S=>pk (abin G .rem t (.int kk a) (.int kk b)) S fun r=>k r S) ((remO a b).bind mk) P:=fun S hS=>by
 intro y hy
 rw [Option.bind_eq_some_iff] at hy
 obtain ⟨s,hs,hm⟩:=hy
 have h1:abin G .rem t (.int kk a) (.int kk b) = some (.int kk s):=by
  unfold remO at hs
  by_cases h:b = 0
  ·rw [if_pos h] at hs; cases hs
  ·rw [if_neg h] at hs; injection hs with hs; subst hs
   simp [abin,h]
   rfl
 show ∃ r,pk (abin G .rem t (.int kk a) (.int kk b)) S (fun r=>k r S) = some r∧_
 rw [h1]
 exact hk s hs S hS y hm
theorem q_rem2 {G:Program} {t:TypeId} {a b:Int} {kk:IntKind} {k:AV→St→Option ρ} {mk:Int→Option τ} (hk:∀ s,remO a b = some s→Okh L (k (.int kk s)) (mk s) P):Okh L (fun S=>pk (bin2 G .rem t (.int kk a) (.int kk b)) S fun r=>k r S) ((remO a b).bind mk) P:=q_rem (G:=G) (t:=t) hk
theorem q_quo {G:Program} {t:TypeId} {a b:Int} {kk:IntKind} {k:AV→St→Option ρ} {mk:Int→Option τ} (hk:∀ s,quoO kk a b = some s→Okh L (k (.int kk s)) (mk s) P):Okh L (fun S=>pk (abin G .quo t (.int kk a) (.int kk b)) S fun r=>k r S) ((quoO kk a b).bind mk) P:=fun S hS=>by
 intro y hy
 rw [Option.bind_eq_some_iff] at hy
 obtain ⟨s,hs,hm⟩:=hy
 have h1:abin G .quo t (.int kk a) (.int kk b) = some (.int kk s):=by
  unfold quoO at hs
  by_cases h:b = 0
  ·rw [if_pos h] at hs; cases hs
  ·rw [if_neg h] at hs; injection hs with hs; subst hs
   simp [abin,h]
   rfl
 show ∃ r,pk (abin G .quo t (.int kk a) (.int kk b)) S (fun r=>k r S) = some r∧_
 rw [h1]
 exact hk s hs S hS y hm
theorem q_quo2 {G:Program} {t:TypeId} {a b:Int} {kk:IntKind} {k:AV→St→Option ρ} {mk:Int→Option τ} (hk:∀ s,quoO kk a b = some s→Okh L (k (.int kk s)) (mk s) P):Okh L (fun S=>pk (bin2 G .quo t (.int kk a) (.int kk b)) S fun r=>k r S) ((quoO kk a b).bind mk) P:=q_quo (G:=G) (t:=t) hk
end
end Go.Rf
