/- What the library's texts answer, told by contracts. -/
import Derived.Test.YtifocmbeahpopaaRh3
set_option linter.unusedVariables false
set_option linter.unusedSimpArgs false
namespace Go.Rf
open Go
def extSB (F:ByteArray→UInt8→Int) (args:List AV) (S:St):Option (AV×St):=match args with
 | [.str s,.str t]=>match t.data.toList with
  | [c]=>some (.int .i64 (F s c),S)
  | _=>none
 | _=>none
theorem CR.two {X:Nat→Prop} {m:BMap} {A:Nat→Prop} {S:St} {w:World} {a b:AV} {cargs:Array Value} (h:CR X m A S w [a,b] cargs):∃ x y,cargs = #[x,y]∧VR X m A S w a x∧VR X m A S w b y:=by
 obtain ⟨h1,h2⟩:=h
 obtain ⟨l⟩:=cargs
 match l,h1 with
 | [x,y],_=>exact ⟨x,y,rfl,h2 0 a x rfl rfl,h2 1 b y rfl rfl⟩
 | [],h=>simp at h
 | [_],h=>simp at h
 | _::_::_::_,h=>simp at h
section
variable {ρ τ:Type} {L:List En} {m:Option τ} {P:τ→ρ→Prop}
theorem argF1 {τ:Type} {run:RunT} {g:FuncId} {mt:Option τ} {Pt:τ→AV×St→Prop} {S:St} {c1:AV} {f1:Bool→AV} (h1:CV 8 L false c1 f1) (hS:HP S L) (h:∀ l1,Fit (run g [f1 l1] []) mt Pt):Fit (run g ([c1].map (fz S)) []) mt Pt:=args1 (M:=fun a=>Fit (run g a []) mt Pt) h1 hS h
theorem aF1 {τ:Type} {run:RunT} {g:FuncId} {mt:Option τ} {Pt:τ→AV×St→Prop} {c1:AV} {f1:Bool→AV} (h1:CV 8 L false c1 f1) (h:∀ l1,Fit (run g [f1 l1] []) mt Pt):∀ S,HP S L→Fit (run g ([c1].map (fz S)) []) mt Pt:=fun S hS=>argF1 h1 hS h
theorem argF2 {τ:Type} {run:RunT} {g:FuncId} {mt:Option τ} {Pt:τ→AV×St→Prop} {S:St} {c1 c2:AV} {f1 f2:Bool→AV} (h1:CV 8 L false c1 f1) (h2:CV 8 L false c2 f2) (hS:HP S L) (h:∀ l1 l2,Fit (run g [f1 l1,f2 l2] []) mt Pt):Fit (run g ([c1,c2].map (fz S)) []) mt Pt:=args2 (M:=fun a=>Fit (run g a []) mt Pt) h1 h2 hS h
theorem aF2 {τ:Type} {run:RunT} {g:FuncId} {mt:Option τ} {Pt:τ→AV×St→Prop} {c1 c2:AV} {f1 f2:Bool→AV} (h1:CV 8 L false c1 f1) (h2:CV 8 L false c2 f2) (h:∀ l1 l2,Fit (run g [f1 l1,f2 l2] []) mt Pt):∀ S,HP S L→Fit (run g ([c1,c2].map (fz S)) []) mt Pt:=fun S hS=>argF2 h1 h2 hS h
theorem argF3 {τ:Type} {run:RunT} {g:FuncId} {mt:Option τ} {Pt:τ→AV×St→Prop} {S:St} {c1 c2 c3:AV} {f1 f2 f3:Bool→AV} (h1:CV 8 L false c1 f1) (h2:CV 8 L false c2 f2) (h3:CV 8 L false c3 f3) (hS:HP S L) (h:∀ l1 l2 l3,Fit (run g [f1 l1,f2 l2,f3 l3] []) mt Pt):Fit (run g ([c1,c2,c3].map (fz S)) []) mt Pt:=args3 (M:=fun a=>Fit (run g a []) mt Pt) h1 h2 h3 hS h
theorem aF3 {τ:Type} {run:RunT} {g:FuncId} {mt:Option τ} {Pt:τ→AV×St→Prop} {c1 c2 c3:AV} {f1 f2 f3:Bool→AV} (h1:CV 8 L false c1 f1) (h2:CV 8 L false c2 f2) (h3:CV 8 L false c3 f3) (h:∀ l1 l2 l3,Fit (run g [f1 l1,f2 l2,f3 l3] []) mt Pt):∀ S,HP S L→Fit (run g ([c1,c2,c3].map (fz S)) []) mt Pt:=fun S hS=>argF3 h1 h2 h3 hS h
def remO (x y:Int):Option Int:=if y = 0 then none else some (x.tmod y)
def quoO (k:IntKind) (x y:Int):Option Int:=if y = 0 then none else some (k.wrap (x.tdiv y))
end
end Go.Rf
