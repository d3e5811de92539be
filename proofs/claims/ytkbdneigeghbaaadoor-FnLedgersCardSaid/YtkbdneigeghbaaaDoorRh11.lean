/- Numbers as texts, texts joined: told by contracts. -/
import Derived.Test.YtkbdneigeghbaaaDoorRh10
import Derived.Lib.Join
import Derived.Lib.ItoaNum
set_option linter.unusedVariables false
set_option linter.unusedSimpArgs false
namespace Go.Rf
open Go Go.RowKit
theorem Rel.below {g0:Nat} {X:Nat→Prop} {m:BMap} {A:Nat→Prop} {S:St} {w w':World} (hr:Rel g0 X m A S w) (hb:Below w.heap.size w w'):Rel g0 X m A S w'∧Ext m A S w m A S w':=by
  have he:Ext m A S w m A S w':=⟨⟨hb.os,hb.tape,hb.output,hb.size,fun c hc _=>hb.block c hc,fun c hc=>shape_eq (hb.block c hc)⟩,fun _ h=>h,fun _ h=>.inl h,fun _ _ _ h=>.inl h,Nat.le_refl _,fun _ B h=>⟨B,h,rfl,Nat.le_refl _,fun _=>rfl⟩⟩
  refine ⟨⟨fun b blk base h=>?_,hr.inj,fun b blk o h=>?_,fun c h=>Nat.lt_of_lt_of_le (hr.alt c h) hb.size,fun c h=>Nat.lt_of_lt_of_le (hr.xlt c h) hb.size,Nat.le_trans hr.glt hb.size⟩,he⟩
  · obtain ⟨B,hB,h1⟩:=hr.box b blk base h
    exact ⟨B,hB,hr.keepBox (b:=b) he (hb.block blk (hr.dis b blk base h).2.2.2) h1⟩
  · obtain ⟨h1,h2,h3,h4⟩:=hr.dis b blk o h
    exact ⟨h1,h2,h3,Nat.lt_of_lt_of_le h4 hb.size⟩
def okI64 (n:Int):Bool:=decide (-9223372036854775808≤n∧n≤9223372036854775807)
def extFI (args:List AV) (S:St):Option (AV×St):=match args with
  | [.int .i64 n,.int .i64 b]=>if b = 10∧okI64 n = true then some (.str ⟨(Lib.itoa n).toArray⟩,S) else none
  | _=>none
def fmtO (n b:Int):Option Str:=if b = 10∧okI64 n = true then some (Lib.itoa n) else none
theorem ext_fi {P:Program} {g0:Nat} {G:World→Prop} {f:FuncId}
    (hc:∀ (n:Int),-9223372036854775808≤n→n≤9223372036854775807→∀ w,G w→Calls P f #[.int .i64 n,.int .i64 10] w fun e w'=>e = .returned (.string ⟨(Lib.itoa n).toArray⟩)∧Below w.heap.size w w')
    (args:List AV) (S:St) (v:AV) (S1:St) (he:extFI args S = some (v,S1)) (X:Nat→Prop) (m:BMap) (A:Nat→Prop) (w:World) (cargs:Array Value) (hr:Rel g0 X m A S w) (ha:CR X m A S w args cargs) (hG:G w) :
    Calls P f cargs w (Post g0 X m A S w v S1):=by
  unfold extFI at he
  split at he <;> try (cases he; done)
  rename_i n b
  split at he <;> try (cases he; done)
  rename_i hb
  obtain ⟨rfl,hb⟩:=hb
  have hb:-9223372036854775808≤n∧n≤9223372036854775807:=of_decide_eq_true hb
  injection he with he
  injection he with h1 h2
  subst h1; subst h2
  obtain ⟨x,y,rfl,hx,hy⟩:=ha.two
  cases hx; cases hy
  refine (hc n hb.1 hb.2 w hG).mono ?_
  rintro e w' ⟨rfl,hB⟩
  obtain ⟨k1,k2⟩:=hr.below hB
  exact ⟨_,m,A,rfl,k1,k2,.str _⟩
theorem fit_fi {d N:Nat} {R:Nat→Nat→FuncId→List AV→St→Option (AV×St)} {f:FuncId} (h:∀ a0 a1 S,R N (d + 1) f [a0,a1] S = extFI [a0,a1] S) (a0 a1:Int):Fit (R N (d + 1) f [.int .i64 a0,.int .i64 a1] []) (fmtO a0 a1) (P0 encS):=by
  rw [h]
  intro t ht
  unfold fmtO at ht
  split at ht <;> try (cases ht; done)
  rename_i hb
  injection ht with ht
  subst ht
  refine ⟨(encS (Lib.itoa a0),[]),?_,rfl⟩
  show (if a1 = 10∧okI64 a0 = true then some (AV.str ⟨(Lib.itoa a0).toArray⟩,([]:St)) else none) = _
  rw [if_pos hb]
  rfl
def strsOf:List (List AV)→Option (List ByteArray)
  | []=>some []
  | [.str s]::r=>(strsOf r).map (s::·)
  | _=>none
def joinMost:Nat:=140737488355328
def extJ (args:List AV) (S:St):Option (AV×St):=match args with
  | [.rsl _ _ es,.str sep]=>match strsOf es with
    | some xs=>if xs.length≤joinMost∧(Lib.join (xs.map (·.data.toList)) sep.data.toList).length≤joinMost then some (.str ⟨(Lib.join (xs.map (·.data.toList)) sep.data.toList).toArray⟩,S) else none
    | none=>none
  | _=>none
def joinO (xs:List Str) (sep:Str):Option Str:=if xs.length≤joinMost∧(Lib.join xs sep).length≤joinMost then some (Lib.join xs sep) else none
theorem strsOf_len:∀ {es:List (List AV)} {xs:List ByteArray},strsOf es = some xs→xs.length = es.length∧∀ (j:Nat) (x:ByteArray),xs[j]? = some x→es[j]? = some [.str x]
  | [],xs,h=>by
    simp only [strsOf,Option.some.injEq] at h
    subst h
    simp
  | e :: es,xs,h=>by
    unfold strsOf at h
    split at h
    · rename_i h0; cases h0
    · rename_i s r h0
      injection h0 with h1 h2
      subst h2
      rw [Option.map_eq_some_iff] at h
      obtain ⟨ys,h3,rfl⟩:=h
      obtain ⟨k1,k2⟩:=strsOf_len h3
      refine ⟨by simp [k1],fun j x hj=>?_⟩
      cases j with
      | zero=>simp at hj; subst hj; rw [h1]; rfl
      | succ j=>simpa using k2 j x (by simpa using hj)
    · cases h
theorem ext_j {P:Program} {g0:Nat} {G:World→Prop} {f:FuncId}
    (hc:∀ (bk o c:Nat) (xs:List ByteArray) (sep:ByteArray) (w:World),(∀ (j:Nat) x,xs[j]? = some x→w.cell? ⟨bk,o + j,none⟩ = some (.string x))→bk < w.heap.size→xs.length≤140737488355328→xs.length≤c→(Lib.join (xs.map (·.data.toList)) sep.data.toList).length≤140737488355328 →
      Calls P f #[.slice (some ⟨bk,o,none⟩) xs.length c,.string sep] w fun e w'=>e = .returned (.string ⟨(Lib.join (xs.map (·.data.toList)) sep.data.toList).toArray⟩)∧Below w.heap.size w w')
    (h0:∀ (a:Option Addr) (c:Nat) (sep:ByteArray) (w:World),Calls P f #[.slice a 0 c,.string sep] w fun e w'=>e = .returned (.string ⟨#[]⟩)∧Below w.heap.size w w')
    (args:List AV) (S:St) (v:AV) (S1:St) (he:extJ args S = some (v,S1)) (X:Nat→Prop) (m:BMap) (A:Nat→Prop) (w:World) (cargs:Array Value) (hr:Rel g0 X m A S w) (ha:CR X m A S w args cargs) (hG:G w) :
    Calls P f cargs w (Post g0 X m A S w v S1):=by
  unfold extJ at he
  split at he <;> try (cases he; done)
  rename_i l fl es sep
  split at he <;> try (cases he; done)
  rename_i xs hxs
  split at he <;> try (cases he; done)
  rename_i hb
  injection he with he
  injection he with h1 h2
  subst h1; subst h2
  obtain ⟨x,y,rfl,hx,hy⟩:=ha.two
  cases hy
  obtain ⟨k1,k2⟩:=strsOf_len hxs
  cases hx with
  | rsl0 _ _ a cap _=>
    have hx0:xs = []:=List.eq_nil_of_length_eq_zero (by simpa using k1)
    subst hx0
    refine (h0 a cap sep w).mono ?_
    rintro e w' ⟨rfl,hB⟩
    obtain ⟨q1,q2⟩:=hr.below hB
    exact ⟨_,m,A,rfl,q1,q2,.str _⟩
  | rsl _ _ _ blk off s cap val hA hX hfl hle hlen hce hcell hv=>
    rw [← k1]
    have hs:0 < es.length→s = 1:=fun h=>by
      obtain ⟨e,he⟩:∃ e,es[0]? = some e:=⟨es[0],List.getElem?_eq_getElem h⟩
      have hx:xs[0]? = some xs[0]:=List.getElem?_eq_getElem (by omega)
      have:=k2 0 _ hx
      rw [← hlen 0 _ this]; rfl
    refine (hc blk off cap xs sep w (fun j x hj=>?_) (hr.alt blk hA) hb.1 (by omega) hb.2).mono ?_
    · have hjl:j < es.length:=by have:=(List.getElem?_eq_some_iff.1 hj).1; omega
      have s1:=hs (by omega)
      subst s1
      have hj2:=k2 j x hj
      have h3:=hcell j 0 hjl (by omega)
      have h4:=hv j _ 0 (.str x) hj2 rfl
      rw [show off + (j * 1 + 0) = off + j by omega] at h3
      rw [h3]
      generalize val j 0 = u at h4
      cases h4
      rfl
    · rintro e w' ⟨rfl,hB⟩
      obtain ⟨q1,q2⟩:=hr.below hB
      exact ⟨_,m,A,rfl,q1,q2,.str _⟩
theorem strsOf_enc (l:Bool):∀ xs:List Str,strsOf (xs.map (Enc.cs l)) = some (xs.map fun s=>⟨s.toArray⟩)
  | []=>rfl
  | x::xs=>by
    show (strsOf (xs.map (Enc.cs l))).map _ = _
    rw [strsOf_enc l xs]; rfl
theorem fit_j {d N:Nat} {R:Nat→Nat→FuncId→List AV→St→Option (AV×St)} {f:FuncId} (h:∀ a0 a1 S,R N (d + 1) f [a0,a1] S = extJ [a0,a1] S) (l fl:Bool) (a0:List Str) (a1:Str):Fit (R N (d + 1) f [.rsl l fl (a0.map (Enc.cs l)),encS a1] []) (joinO a0 a1) (P0 encS):=by
  rw [h]
  intro t ht
  unfold joinO at ht
  split at ht <;> try (cases ht; done)
  rename_i hb
  injection ht with ht
  subst ht
  have e:(a0.map fun s=>(⟨s.toArray⟩:ByteArray)).map (·.data.toList) = a0:=by
    rw [List.map_map]
    calc _ = a0.map id:=List.map_congr_left fun s _=>rfl
      _ = a0:=by simp
  refine ⟨(encS (Lib.join a0 a1),[]),?_,rfl⟩
  simp only [extJ,encS,strsOf_enc,e,List.length_map]
  rw [if_pos hb]
end Go.Rf
