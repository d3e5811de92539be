/- Numbers as texts, texts joined: told by contracts. -/
import Derived.Test.YtocbahgmnandaaaDoorRh10
import Derived.Lib.Join
import Derived.Lib.ItoaNum
set_option linter.unusedVariables false
set_option linter.unusedSimpArgs false
namespace Go.Rf
open Go Go.RowKit
theorem Rel.below {g0:Nat} {X:Nat→Prop} {m:BMap} {A:Nat→Prop} {S:St} {w w':World} (hr:Rel g0 X m A S w) (hb:Below w.heap.size w w'):Rel g0 X m A S w'∧Ext m A S w m A S w':=by
  have he:Ext m A S w m A S w':=⟨⟨hb.os,hb.tape,hb.output,hb.size,fun c hc _=>hb.block c hc,fun c hc=>shape_eq (hb.block c hc)⟩,fun _ h=>h,fun _ h=>.inl h,fun _ _ _ h=>.inl h,Nat.le_refl _,fun _ B h=>⟨B,h,rfl,Nat.le_refl _,fun _=>rfl⟩⟩
  refine ⟨⟨fun b blk base h=>?_,hr.inj,fun b blk o h=>?_,fun c h=>Nat.lt_of_lt_of_le (hr.alt c h) hb.size,fun c h=>Nat.lt_of_lt_of_le (hr.xlt c h) hb.size,Nat.le_trans hr.glt hb.size⟩,he⟩
  · obtain ⟨B,hB,h1⟩:=hr.box b blk base h
    exact ⟨B,hB,hr.keepBox (b:=b) he (hb.block blk (hr.dis b blk base h).2.2.2) h1⟩
  · obtain ⟨h1,h2,h3,h4⟩:=hr.dis b blk o h
    exact ⟨h1,h2,h3,Nat.lt_of_lt_of_le h4 hb.size⟩
def okI64 (n:Int):Bool:=decide (-9223372036854775808≤n∧n≤9223372036854775807)
def extFI (args:List AV) (S:St):Option (AV×St):=match args with
  | [.int .i64 n,.int .i64 b]=>if b = 10∧okI64 n = true then some (.str ⟨(Lib.itoa n).toArray⟩,S) else none
  | _=>none
def fmtO (n b:Int):Option Str:=if b = 10∧okI64 n = true then some (Lib.itoa n) else none
theorem ext_fi {P:Program} {g0:Nat} {G:World→Prop} {f:FuncId}
    (hc:∀ (n:Int),-9223372036854775808≤n→n≤9223372036854775807→∀ w,G w→Calls P f #[.int .i64 n,.int .i64 10] w fun e w'=>e = .returned (.string ⟨(Lib.itoa n).toArray⟩)∧Below w.heap.size w w')
    (args:List AV) (S:St) (v:AV) (S1:St) (he:extFI args S = some (v,S1)) (X:Nat→Prop) (m:BMap) (A:Nat→Prop) (w:World) (cargs:Array Value) (hr:Rel g0 X m A S w) (ha:CR X m A S w args cargs) (hG:G w) :
    Calls P f cargs w (Post g0 X m A S w v S1):=by
  unfold extFI at he
  split at he <;> try (cases he; done)
  rename_i n b
  split at he <;> try (cases he; done)
  rename_i hb
  obtain ⟨rfl,hb⟩:=hb
  have hb:-9223372036854775808≤n∧n≤9223372036854775807:=of_decide_eq_true hb
  injection he with he
  injection he with h1 h2
  subst h1; subst h2
  obtain ⟨x,y,rfl,hx,hy⟩:=ha.two
  cases hx; cases hy
  refine (hc n hb.1 hb.2 w hG).mono ?_
  rintro e w' ⟨rfl,hB⟩
  obtain ⟨k1,k2⟩:=hr.below hB
  exact ⟨_,m,A,rfl,k1,k2,.str _⟩
theorem fit_fi {d N:Nat} {R:Nat→Nat→FuncId→List AV→St→Option (AV×St)} {f:FuncId} (h:∀ a0 a1 S,R N (d + 1) f [a0,a1] S = extFI [a0,a1] S) (a0 a1:Int):Fit (R N (d + 1) f [.int .i64 a0,.int .i64 a1] []) (fmtO a0 a1) (P0 encS):=by
  rw [h]
  intro t ht
  unfold fmtO at ht
  split at ht <;> try (cases ht; done)
  rename_i hb
  injection ht with ht
  subst ht
  refine ⟨(encS (Lib.itoa a0),[]),?_,rfl⟩
  show (if a1 = 10∧okI64 a0 = true then some (AV.str ⟨(Lib.itoa a0).toArray⟩,([]:St)) else none) = _
  rw [if_pos hb]
  rfl
def strsOf:List (List AV)→Option (List ByteArray)
  | []=>some []
  | [.str s]::r=>(strsOf r).map (s::·)
  | _=>none
def joinMost:Nat:=140737488355328
def extJ (args:List AV) (S:St):Option (AV×St):=match args with
  | [.rsl _ _ es,.str sep]=>match strsOf es with
    | some xs=>if xs.length≤joinMost∧(Lib.join (xs.map (·.data.toList)) sep.data.toList).length≤joinMost then some (.str ⟨(Lib.join (xs.map (·.data.toList)) sep.data.toList).toArray⟩,S) else none
    | none=>none
  | _=>none
def joinO (xs:List Str) (sep:Str):Option Str:=if xs.length≤joinMost∧(Lib.join xs sep).length≤joinMost then some (Lib.join xs sep) else none
end Go.Rf
