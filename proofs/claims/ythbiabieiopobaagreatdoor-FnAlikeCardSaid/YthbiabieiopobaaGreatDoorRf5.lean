/- The operations, continued: addresses, slices, numbers, texts. -/
import Derived.Test.YthbiabieiopobaaGreatDoorRf4
set_option linter.unusedVariables false
set_option linter.unusedSimpArgs false
namespace Go.Rf
open Go
variable {g0:Nat} {X:Nat→Prop} {m:Bd} {A:Nat→Prop} {S:St} {w:World} {P:Program}
theorem List.mem_drop_take {α:Type} {l:List α} {a b:Nat} {x:α} (h:x∈(l.drop a).take b):x∈l:=List.mem_of_mem_drop (List.mem_of_mem_take h)
theorem Tc (hr:Rel g0 X m A S w) {p v:AV} {cp:Value} (hp:VR X m A S w p cp) {t:TypeId} {fs:Array Field} (hu:P.underlying t = some (.struct fs)) {i:Nat} {g:Field}
  (hg:fs[i]? = some g) (h0:0 < P.cellsOf g.type) (h:CL p g.offset (P.cellsOf g.type) = some v):Ok P g0 X m A S w (Instr.fieldAt t cp i) v S:=by
 have hsz:(sizeOf g.type).run P w = .ok (P.cellsOf g.type) w:=by
  cases hi:P.info? g.type with
  | none=>simp [Program.cellsOf,hi] at h0
  | some j=>rw [DW hi]; simp [Program.cellsOf,hi]
 have hrun:∀ blk off,cp = .pointer (some ⟨blk,off,none⟩)→(Instr.fieldAt t cp i).run P w = .ok (.pointer (some ⟨blk,off + g.offset,none⟩)) w:=by
  rintro blk off rfl
  have hne:¬ P.cellsOf g.type = 0:=by omega
  simp [Instr.fieldAt,run_underlying hu,hg,Instr.sureAddr,fieldPlace,hsz,hne,Addr.add_lit]
 cases hp with
 | rp l cs blk off val hA hX hce hc hv=>
  simp only [CL] at h; injection h with h; subst h
  refine Ok.stay hr (hrun blk off rfl) (.rp _ _ _ _ (fun j=>val (g.offset + j)) hA hX (fun a ha=>hce a (List.mem_drop_take ha)) (fun j hj=>?_) (fun j a ha=>?_))
  ·have:=hc (g.offset + j) (by simp at hj; omega)
   rw [Nat.add_assoc]; exact this
  ·rw [List.getElem?_take,List.getElem?_drop] at ha
   split at ha
   ·exact hv _ a ha
   ·cases ha
 | bp b i' o n L ad B hB hL hb=>
  simp only [CL] at h
  split at h <;> try (cases h; done)
  rename_i hle
  injection h with h; subst h
  by_cases e:B.es.length = L
  ·obtain ⟨blk,base,h1,h2,h3,rfl⟩:=hb e
   refine Ok.stay hr (hrun _ _ rfl) (.bp _ _ _ _ _ _ B hB hL (fun _=>⟨blk,base,h1,h2,by omega,by congr 1; omega⟩))
  ·-- a stale pointer: whatever comes of it is stale
   obtain ⟨blk,off,sp⟩:=ad
   cases sp with
   | none=>exact Ok.stay hr (hrun _ _ rfl) (.bp _ _ _ _ _ _ B hB hL (fun h=>absurd h e))
   | some sp=>
    have hne:¬ P.cellsOf g.type = 0:=by omega
    exact Ok.stay hr (cv:=.pointer (some ((⟨blk,off,some sp⟩:Addr).add g.offset))) (by simp [Instr.fieldAt,run_underlying hu,hg,Instr.sureAddr,fieldPlace,hsz,hne]) (.bp _ _ _ _ _ _ B hB hL (fun h=>absurd h e))
 | _=>simp [CL] at h
theorem SY (hr:Rel g0 X m A S w) {x i v:AV} {cx ci:Value} (hx:VR X m A S w x cx) (hi:VR X m A S w i ci) {t e:TypeId} (hu:P.underlying t = some (.slice e))
  (h0:0 < P.cellsOf e) (h:B8 (P.cellsOf e) x i S = some v):Ok P g0 X m A S w (Instr.indexAt t cx ci) v S:=by
 have hsz':∀ w,(sizeOf e).run P w = .ok (P.cellsOf e) w:=by
  intro w
  cases hi:P.info? e with
  | none=>simp [Program.cellsOf,hi] at h0
  | some j=>rw [DW hi]; simp [Program.cellsOf,hi]
 cases hi with
 | int k n=>
  cases hx with
  | rsl0 l fl a cap _=>simp [B8] at h
  | rsl l fl es blk off s cap val hA hX hfl hle hlen hce hc hv=>
   simp only [B8] at h
   split at h <;> try (cases h; done)
   rename_i hn
   split at h <;> try (cases h; done)
   rename_i el hel
   split at h <;> try (cases h; done)
   rename_i hes
   injection h with h; subst h
   have hlt:n.toNat < es.length:=(List.getElem?_eq_some_iff.1 hel).1
   have hls:el.length = s:=hlen _ _ hel
   have hsz:s = P.cellsOf e:=hls.symm.trans hes
   refine Ok.stay hr (cv:=.pointer (some ⟨blk,off + n.toNat * s,none⟩)) ?_ (.rp _ _ _ _ (fun j=>val n.toNat j) hA hX (hce _ _ hel) (fun j hj=>?_) (fun j a ha=>hv _ _ _ _ hel ha))
   ·have hc1:0≤n∧n < (es.length:Int):=by omega
    simp [Instr.indexAt,asIntOf,run_underlying hu,hc1,hsz',Addr.add_lit,hsz]
   ·have:=hc n.toNat j hlt (by omega)
    rw [Nat.add_assoc]; exact this
  | bsl b i0 n' L fl ad cap B hB hL hb=>
   simp only [B8,hB] at h
   split at h <;> try (cases h; done)
   rename_i hn
   split at h <;> try (cases h; done)
   rename_i hsz
   injection h with h; subst h
   refine Ok.stay hr (cv:=.pointer (some (ad.add (n.toNat * P.cellsOf e)))) ?_ (.bp _ _ _ _ _ _ B hB hL (fun e=>?_))
   ·simp [Instr.indexAt,asIntOf,run_underlying hu,hn,hsz']
   ·obtain ⟨blk,base,h1,h2,had,hcap,_⟩:=hb e
    have had:=had (by omega)
    subst had
    refine ⟨blk,base,h1,by omega,by omega,?_⟩
    rw [Addr.add_lit,hsz]
    congr 1
    rw [Nat.add_mul]; omega
  | _=>simp [B8] at h
 | _=>cases x <;> simp [B8] at h
theorem Zl (hr:Rel g0 X m A S w) {x v:AV} {cx:Value} (hx:VR X m A S w x cx) {t ty e:TypeId} {ts:Array TypeId} (ht:ts[0]? = some t) (hu:P.underlying t = some (.slice e))
  (h:Fe x = some v):Ok P g0 X m A S w (Builtin.len_ ts ty #[cx]) v S:=by
 cases hx <;> simp [Fe] at h <;> subst h <;> exact Ok.stay hr (by simp [Builtin.len_,ht,run_underlying hu]; rfl) (.int _ _)
theorem Ya (hr:Rel g0 X m A S w) {x v:AV} {cx:Value} (hx:VR X m A S w x cx) {t ty:TypeId} {ts:Array TypeId} (ht:ts[0]? = some t) (hu:P.underlying t = some .string)
  (h:FD x = some v):Ok P g0 X m A S w (Builtin.len_ ts ty #[cx]) v S:=by
 cases hx <;> simp [FD] at h <;> subst h <;> exact Ok.stay hr (by simp [Builtin.len_,ht,run_underlying hu]; rfl) (.int _ _)
theorem SI (hr:Rel g0 X m A S w) {x i v:AV} {cx ci:Value} (hx:VR X m A S w x cx) (hi:VR X m A S w i ci) {t:TypeId} (hu:P.underlying t = some .string)
  (h:Cj x i = some v):Ok P g0 X m A S w (Instr.index t cx ci) v S:=by
 cases hi with
 | int k n=>
  cases hx with
  | str s=>
   simp only [Cj] at h
   split at h <;> try (cases h; done)
   rename_i hn
   split at h <;> try (cases h; done)
   rename_i b hb
   injection h with h; subst h
   exact Ok.stay hr (by simp [Instr.index,asIntOf,run_underlying hu,hn,hb]) (.int _ _)
  | _=>simp [Cj] at h
 | _=>cases x <;> simp [Cj] at h
theorem fR (hr:Rel g0 X m A S w) {op:UnOp} {x v:AV} {cx:Value} (hx:VR X m A S w x cx) (h:aun op x = some v):Ok P g0 X m A S w (Op.unary op cx) v S:=by
 cases hx <;> cases op <;> simp [aun] at h <;> subst h <;> exact Ok.stay hr (by first | (simp [Op.unary,Op.intArith]; done) | (simp [Op.unary,Op.intArith]; rfl)) (by constructor)
theorem Qg (hr:Rel g0 X m A S w) {x v:AV} {cx:Value} (hx:VR X m A S w x cx) {i:Nat} (h:(match x with | .tup vs=>vs[i]? | _=>none) = some v) :
  Ok P g0 X m A S w (Instr.extract cx i) v S:=by
 cases hx with
 | tup cs vs hl hall=>
  simp only at h
  have hi:i < vs.size:=by rw [← hl]; exact (List.getElem?_eq_some_iff.1 h).1
  exact Ok.stay hr (cv:=vs[i]) (by simp [Instr.extract,hi]) (hall i v _ h (by simp [hi]))
 | _=>simp at h
theorem WJ (hr:Rel g0 X m A S w) {x v:AV} {cx:Value} (hx:VR X m A S w x cx) {t:TypeId} {fs:Array Field} (hu:P.underlying t = some (.struct fs)) {i:Nat} {g:Field} (hg:fs[i]? = some g)
  {d:TypeDesc} (hd:P.underlying g.type = some d) (h:IU x (EZ d) g.offset (P.cellsOf g.type) = some v) :
  Ok P g0 X m A S w (Instr.field t cx i) v S:=by
 cases hx with
 | agg cs vs hl hce hall=>
  simp only [IU] at h
  by_cases ha:EZ d = true
  ·simp only [ha,if_true] at h
   split at h <;> try (cases h; done)
   rename_i hle
   injection h with h; subst h
   refine Ok.stay hr (cv:=.agg (vs.extract g.offset (g.offset + P.cellsOf g.type))) ?_ (.agg _ _ ?_ (fun a ha=>hce a (List.mem_drop_take ha)) (fun j a v hj hv=>?_))
   ·simp [Instr.field,run_underlying hu,hg,part,Ef hd,ha,asAgg,Fg hd]
   ·simp; omega
   ·rw [List.getElem?_take,List.getElem?_drop] at hj
    split at hj <;> try (cases hj; done)
    rw [Array.getElem?_extract] at hv
    split at hv <;> try (cases hv; done)
    exact hall _ a v hj hv
  ·simp only [ha,if_false,Bool.false_eq_true] at h
   have hi:g.offset < vs.size:=by rw [← hl]; exact (List.getElem?_eq_some_iff.1 h).1
   exact Ok.stay hr (cv:=vs[g.offset]) (by simp [Instr.field,run_underlying hu,hg,part,Ef hd,ha,asAgg,hi]) (hall _ v _ h (by simp [hi]))
 | _=>simp [IU] at h
end Go.Rf
