/- Slices of slices, building, making, appending. -/
import Derived.Test.YthbiabieiopobaaGreatDoorRf7
set_option linter.unusedVariables false
set_option linter.unusedSimpArgs false
namespace Go.Rf
open Go
variable {g0:Nat} {X:Nat→Prop} {m:Bd} {A:Nat→Prop} {S:St} {w:World} {P:Program}
def OV (X:Nat→Prop) (m:Bd) (A:Nat→Prop) (S:St) (w:World) (a:Option AV) (v:Option Value):Prop:=
 (a = none∧v = none)∨∃ x y,a = some x∧v = some y∧VR X m A S w x y
theorem GM {a:Option AV} {v:Option Value} (h:OV X m A S w a v) {r:Option Nat} (hr:Dz a = some r) :
  (r = none∧v = none)∨∃ n k i,r = some n∧v = some (.int k i)∧0≤i∧i.toNat = n:=by
 rcases h with ⟨rfl,rfl⟩ | ⟨x,y,rfl,rfl,hv⟩
 ·simp [Dz] at hr; exact .inl ⟨hr.symm,rfl⟩
 ·cases hv <;> simp [Dz] at hr
  exact .inr ⟨_,_,_,hr.2.symm,rfl,hr.1,rfl⟩
theorem Uc {k:IntKind} {i:Int} {y:Nat} (h0:0≤i) (h1:i.toNat≤y) (code:BoundsCode) (w:World):(Instr.sliceBound (.int k i) y code).run P w = .ok i.toNat w:=by
 have:0≤i∧i≤(y:Int):=by omega
 simp [Instr.sliceBound,asIntOf,this]
theorem Ea {lo hi mx:Option Value} {l h' m':Option Nat} (hl:(l = none∧lo = none)∨∃ n k i,l = some n∧lo = some (.int k i)∧0≤i∧i.toNat = n)
  (hh:(h' = none∧hi = none)∨∃ n k i,h' = some n∧hi = some (.int k i)∧0≤i∧i.toNat = n)
  (hm:(m' = none∧mx = none)∨∃ n k i,m' = some n∧mx = some (.int k i)∧0≤i∧i.toNat = n) (isS:Bool) (len cap:Nat)
  (hmh:m'≠none→h'≠none) (h1:m'.getD cap≤cap) (h2:h'.getD len≤m'.getD cap) (h3:l.getD 0≤h'.getD len) (w:World) :
  (Instr.sliceBounds isS len cap lo hi mx).run P w = .ok (l.getD 0,h'.getD len,m'.getD cap) w:=by
 rcases hl with ⟨rfl,rfl⟩ | ⟨ln,lk,li,rfl,rfl,hl0,rfl⟩ <;>
 rcases hh with ⟨rfl,rfl⟩ | ⟨hn,hk,hi',rfl,rfl,hh0,rfl⟩ <;>
 rcases hm with ⟨rfl,rfl⟩ | ⟨mn,mk,mi,rfl,rfl,hm0,rfl⟩ <;>
 simp only [Option.getD_none,Option.getD_some,ne_eq,not_true_eq_false,reduceCtorEq,not_false_eq_true,imp_false,false_implies,forall_const] at hmh h1 h2 h3 ⊢ <;>
 simp [Instr.sliceBounds,Uc, *]
theorem VR.rsl_cut {b:Bool} {es:List (List AV)} {blk off s:Nat} {val:Nat→Nat→Value} (L H sz mm:Nat) (fl':Bool) (hA:A blk) (hX:b = false→¬ X blk)
  (hlen:∀ (i:Nat) (e:List AV),es[i]? = some e→e.length = s) (hce:∀ (i:Nat) (e:List AV),es[i]? = some e→∀ a∈e,CO b a = true)
  (hc:∀ i j,i < es.length→j < s→w.cell? ⟨blk,off + (i * s + j),none⟩ = some (val i j))
  (hv:∀ (i:Nat) (e:List AV) (j:Nat) (a:AV),es[i]? = some e→e[j]? = some a→VR X m A S w a (val i j))
  (c1:L≤H) (c2:H≤es.length) (c3:∀ e∈es,e.length = sz) (hm1:H≤mm) (hfl':fl' = true→mm = H) :
  VR X m A S w (.rsl b fl' ((es.drop L).take (H - L)))
   (.slice (if mm = L then some ⟨blk,off,none⟩ else (some (⟨blk,off,none⟩:Addr)).map (·.add (L * sz))) (H - L) (mm - L)):=by
 by_cases hz:H = L
 ·rw [hz]; simp only [Nat.sub_self,List.take_zero]
  exact .rsl0 _ _ _ _ (fun hf=>by have:=hfl' hf; omega)
 ·have hlt:L < es.length:=by omega
  have hs:s = sz:=by
   have h1:=hlen L _ (List.getElem?_eq_getElem hlt)
   have h2:=c3 _ (List.getElem_mem hlt)
   omega
  subst hs
  rw [if_neg (by omega)]
  simp only [Option.map_some,Addr.add_lit]
  have hn:((es.drop L).take (H - L)).length = H - L:=by simp; omega
  have hget:∀ (i':Nat) (e':List AV),((es.drop L).take (H - L))[i']? = some e'→es[L + i']? = some e':=by
   intro i' e' hi'
   rw [List.getElem?_take,List.getElem?_drop] at hi'
   split at hi'
   ·exact hi'
   ·cases hi'
  have:=VR.rsl (X:=X) (m:=m) (A:=A) (S:=S) (w:=w) b fl' ((es.drop L).take (H - L)) blk (off + L * s) s (mm - L) (fun i j=>val (L + i) j) hA hX
   (fun hf=>by rw [hn]; have:=hfl' hf; omega) (by rw [hn]; omega) (fun i' e' hh=>hlen _ e' (hget i' e' hh)) (fun i' e' hh=>hce _ e' (hget i' e' hh))
   (fun i' j hi' hj=>by
    rw [hn] at hi'
    have:=hc (L + i') j (by omega) hj
    rw [← this,Nat.add_mul]
    congr 2; omega)
   (fun i' e' j a hh ha=>hv _ e' j a (hget i' e' hh) ha)
  rw [hn] at this; exact this
theorem VR.bsl_cut {b i L:Nat} {cap:Nat} {B:Box} {ad:Addr} (l H sz mm:Nat) (fl':Bool) (hB:S[b]? = some B) (hL:L≤B.es.length) {blk base:Nat}
  (q1:m b = some (blk,base)) (had:cap≠0→ad = ⟨blk,base + i * B.sz,none⟩)
  (q7:∀ q,w.shape? blk = some q→base + (i + cap) * B.sz≤q.2) (csz:B.sz = sz) (c1:l≤H) (hm1:H≤mm) (hm2:mm≤cap) (hfl':fl' = true→mm = H) (hfl2:fl' = false→L≤i + mm) (hin:i + H≤L) :
  VR X m A S w (.bsl b (i + l) (H - l) L fl') (.slice (if mm = l then some ad else (some ad).map (·.add (l * sz))) (H - l) (mm - l)):=by
 have hroom:∀ q,w.shape? blk = some q→base + (i + mm) * B.sz≤q.2:=fun q hq=>by
  have:=q7 q hq
  have h3:(i + mm) * B.sz≤(i + cap) * B.sz:=Nat.mul_le_mul_right _ (by omega)
  omega
 have hsh:∃ ad',(if mm = l then some ad else (some ad).map (·.add (l * sz))) = some ad'∧(mm - l≠0→ad' = ⟨blk,base + (i + l) * B.sz,none⟩):=by
  by_cases hz:mm = l
  ·exact ⟨ad,by rw [if_pos hz],fun h=>absurd (by omega) h⟩
  ·refine ⟨ad.add (l * sz),by rw [if_neg hz]; rfl,fun _=>?_⟩
   rw [had (by omega),Addr.add_lit,← csz]
   congr 1; rw [Nat.add_mul]; omega
 obtain ⟨ad',e1,e2⟩:=hsh
 rw [e1]
 refine .bsl _ _ _ _ _ _ _ B hB hL (fun _=>⟨blk,base,q1,by omega,e2,by omega,fun hf=>by have:=hfl' hf; omega,fun hf=>by have:=hfl2 hf; omega,fun q hq=>?_⟩)
 have:=hroom q hq
 rw [show i + l + (mm - l) = i + mm by omega]; exact this
theorem Uf (hr:Rel g0 X m A S w) {x v:AV} {cx:Value} (hx:VR X m A S w x cx) {lo hi mx:Option AV} {clo chi cmx:Option Value}
  (hlo:OV X m A S w lo clo) (hhi:OV X m A S w hi chi) (hmx:OV X m A S w mx cmx) {t e:TypeId} (hu:P.underlying t = some (.slice e)) (h0:0 < P.cellsOf e)
  (hns:∀ s,x≠.str s) (h:E8 (P.cellsOf e) x lo hi mx S = some v):Ok P g0 X m A S w (Instr.sliceAt t cx clo chi cmx) v S:=by
 have hsz:∀ w,(sizeOf e).run P w = .ok (P.cellsOf e) w:=by
  intro w
  cases hi:P.info? e with
  | none=>simp [Program.cellsOf,hi] at h0
  | some j=>rw [DW hi]; simp [Program.cellsOf,hi]
 have hrun:∀ (a:Option Addr) (len cap l h' m':Nat),cx = .slice a len cap→(Instr.sliceBounds true len cap clo chi cmx).run P w = .ok (l,h',m') w →
   (Instr.sliceAt t cx clo chi cmx).run P w = .ok (.slice (if m' = l then a else a.map (·.add (l * P.cellsOf e))) (h' - l) (m' - l)) w:=by
  rintro a len cap l h' m' rfl hb
  simp [Instr.sliceAt,Instr.slice,run_underlying hu,hb,hsz]
 unfold E8 at h
 split at h <;> try (cases h; done)
 rename_i l h' m' el eh em
 have ol:=GM hlo el
 have oh:=GM hhi eh
 have om:=GM hmx em
 simp only at h
 cases hx with
 | str s=>exact absurd rfl (hns s)
 | rsl0 b fl a cap hfl=>
  simp only [List.length_nil,List.drop_nil,List.take_nil] at h
  split at h <;> try (cases h; done)
  rename_i hc
  have hh:h'.getD 0 = 0:=by omega
  have hll:l.getD 0 = 0:=by omega
  rcases om with ⟨rfl,rfl⟩ | ⟨mn,mk,mi,rfl,rfl,hm0,rfl⟩
  ·injection h with h; subst h
   have hb:=Ea (P:=P) ol oh (.inl ⟨rfl,rfl⟩) true 0 cap (by simp) (by simp) (by simp [hh]) (by omega) w
   refine Ok.stay hr (hrun _ _ _ _ _ _ rfl hb) ?_
   rw [hh,hll]
   refine .rsl0 _ _ _ _ (fun hf=>?_)
   simp at hf; simp [hfl hf]
  ·rcases oh with ⟨rfl,rfl⟩ | ⟨hn,hk,hi',rfl,rfl,hh0,rfl⟩
   ·cases h
   ·simp only at h
    split at h <;> try (cases h; done)
    rename_i hm
    injection h with h; subst h
    have hb:=Ea (P:=P) ol (.inr ⟨_,hk,hi',rfl,rfl,hh0,rfl⟩) (.inr ⟨_,mk,mi,rfl,rfl,hm0,rfl⟩) true 0 cap (by simp) (by simp at hm ⊢; omega) (by simp at hm ⊢; omega) (by simp at hh ⊢; omega) w
    refine Ok.stay hr (hrun _ _ _ _ _ _ rfl hb) ?_
    simp only [Option.getD_some] at hh ⊢
    rw [hh,hll]
    exact .rsl0 _ _ _ _ (fun _=>by omega)
 | rsl b fl es blk off s cap val hA hX hfl hle hlen hce hc hv=>
  dsimp only at h
  split at h <;> try (cases h; done)
  rename_i hcond
  obtain ⟨c1,c2,c3⟩:=hcond
  have part:=fun (fl':Bool) (mm:Nat) (q1:h'.getD es.length≤mm) (_:mm≤cap) (q3:fl' = true→mm = h'.getD es.length)=>
   VR.rsl_cut (l.getD 0) (h'.getD es.length) (P.cellsOf e) mm fl' hA hX hlen hce hc hv c1 c2 (fun q hq=>by simpa using List.all_eq_true.1 c3 q hq) q1 q3
  rcases om with ⟨rfl,rfl⟩ | ⟨mn,mk,mi,rfl,rfl,hm0,rfl⟩
  ·injection h with h; subst h
   have hb:=Ea (P:=P) ol oh (.inl ⟨rfl,rfl⟩) true es.length cap (by simp) (by simp) (by simp; omega) c1 w
   refine Ok.stay hr (hrun _ _ _ _ _ _ rfl hb) ?_
   exact part _ cap (by omega) (Nat.le_refl _) (fun hf=>by simp at hf; have:=hfl hf.1; omega)
  ·rcases oh with ⟨rfl,rfl⟩ | ⟨hn,hk,hi',rfl,rfl,hh0,rfl⟩
   ·cases h
   ·simp only at h
    split at h <;> try (cases h; done)
    rename_i hm
    injection h with h; subst h
    have hb:=Ea (P:=P) ol (.inr ⟨_,hk,hi',rfl,rfl,hh0,rfl⟩) (.inr ⟨_,mk,mi,rfl,rfl,hm0,rfl⟩) true es.length cap (by simp) (by simp; omega) (by simp at hm ⊢; omega) c1 w
    refine Ok.stay hr (hrun _ _ _ _ _ _ rfl hb) ?_
    exact part _ mi.toNat (by omega) (by omega) (fun hf=>by simpa using hf)
 | bsl b i n L fl ad cap B hB hL hb=>
  simp only [hB] at h
  split at h <;> try (cases h; done)
  rename_i hcond
  obtain ⟨c0,csz,c1,c2⟩:=hcond
  obtain ⟨blk,base,q1,q2,had,q4,q5,q6,q7⟩:=hb c0
  have hhc:h'.getD n≤cap:=by
   rcases c2 with c2 | ⟨c2,c3⟩
   ·omega
   ·have:=q6 c2; omega
  have part:=fun (fl':Bool) (mm:Nat) (r1:h'.getD n≤mm) (r2:mm≤cap) (r3:fl' = true→mm = h'.getD n) (r4:fl' = false→L≤i + mm) (r5:i + h'.getD n≤L)=>
   VR.bsl_cut (X:=X) (A:=A) (l.getD 0) (h'.getD n) (P.cellsOf e) mm fl' hB hL q1 had q7 csz c1 r1 r2 r3 r4 r5
  have hin:i + h'.getD n≤L:=by
   rcases c2 with c2 | ⟨c2,c3⟩
   ·omega
   ·exact c3
  rcases om with ⟨rfl,rfl⟩ | ⟨mn,mk,mi,rfl,rfl,hm0,rfl⟩
  ·dsimp only at h
   split at h <;> try (cases h; done)
   rename_i hful
   injection h with h; subst h
   have hbr:=Ea (P:=P) ol oh (.inl ⟨rfl,rfl⟩) true n cap (by simp) (by simp) (by simpa using hhc) c1 w
   refine Ok.stay hr (hrun _ _ _ _ _ _ rfl hbr) ?_
   refine part _ cap hhc (Nat.le_refl _) (fun hf=>?_) (fun hf=>?_) hin
   ·simp at hf; have:=q5 hf.1; omega
   ·by_cases hfl:fl = true
    ·subst hfl
     simp at hf
     have:=q5 rfl
     rcases hful with hful | hful | hful
     ·cases hful
     ·exact absurd hful hf
     ·omega
    ·exact q6 (by simpa using hfl)
  ·rcases oh with ⟨rfl,rfl⟩ | ⟨hn,hk,hi',rfl,rfl,hh0,rfl⟩
   ·cases h
   ·simp only at h
    have hmc:mi.toNat = hi'.toNat∨(hi'.toNat≤mi.toNat∧(mi.toNat≤n∨(fl = false∧i + mi.toNat≤L))):=by
     by_cases e1:mi.toNat = hi'.toNat
     ·exact .inl e1
     ·right
      simp only [Option.getD_some,if_neg e1] at h
      split at h
      ·rename_i h2; exact h2
      ·cases h
    have hmcap:mi.toNat≤cap:=by
     rcases hmc with hmc | ⟨_,hmc | ⟨hmc,hmc2⟩⟩
     ·simp at hhc; omega
     ·omega
     ·have:=q6 hmc; omega
    have hbr:=Ea (P:=P) ol (.inr ⟨_,hk,hi',rfl,rfl,hh0,rfl⟩) (.inr ⟨_,mk,mi,rfl,rfl,hm0,rfl⟩) true n cap (by simp) (by simpa using hmcap) (by simp; omega) c1 w
    split at h
    ·rename_i em'
     injection h with h; subst h
     refine Ok.stay hr (hrun _ _ _ _ _ _ rfl hbr) ?_
     exact part true mi.toNat (by simp at em' ⊢; omega) hmcap (fun _=>by simpa using em') (fun hf=>by cases hf) hin
    ·split at h
     ·injection h with h; subst h
      exact Ok.stay hr (hrun _ _ _ _ _ _ rfl hbr) (.dead _ rfl)
     ·cases h
 | _=>simp at h
end Go.Rf
namespace Go.Rf
open Go
variable {g0:Nat} {X:Nat→Prop} {m:Bd} {A:Nat→Prop} {S:St} {w:World} {P:Program}
theorem Q7 (hr:Rel g0 X m A S w) {s:ByteArray} {v:AV} {lo hi mx:Option AV} {clo chi cmx:Option Value}
  (hlo:OV X m A S w lo clo) (hhi:OV X m A S w hi chi) (hmx:OV X m A S w mx cmx) {t:TypeId} (hu:P.underlying t = some .string)
  (h:E8 0 (.str s) lo hi mx S = some v):Ok P g0 X m A S w (Instr.sliceAt t (.string s) clo chi cmx) v S:=by
 unfold E8 at h
 split at h <;> try (cases h; done)
 rename_i l h' m' el eh em
 have ol:=GM hlo el
 have oh:=GM hhi eh
 have om:=GM hmx em
 dsimp only at h
 rcases om with ⟨rfl,rfl⟩ | ⟨mn,mk,mi,rfl,rfl,hm0,rfl⟩
 ·dsimp only at h
  split at h <;> try (cases h; done)
  rename_i hc
  injection h with h; subst h
  have hb:=Ea (P:=P) ol oh (.inl ⟨rfl,rfl⟩) false s.size s.size (by simp) (by simp) (by simpa using hc.2) hc.1 w
  exact Ok.stay hr (by simp [Instr.sliceAt,Instr.slice,run_underlying hu,hb]) (.str _)
 ·cases h
theorem M3 (hr:Rel g0 X m A S w) {x:AV} {cx:Value} (hx:VR X m A S w x cx) (h0:(AK x).length≠0) (ty:TypeId) :
  ∃ m',Rel g0 X m' A (A5 S (AK x)).2 (w.alloc (.cells cx.cells ty))∧Ext m A S w m' A (A5 S (AK x)).2 (w.alloc (.cells cx.cells ty)) ∧
   VR X m' A (A5 S (AK x)).2 (w.alloc (.cells cx.cells ty)) (A5 S (AK x)).1 (.pointer (some ⟨w.heap.size,0,none⟩)):=by
 obtain ⟨c1,c2,c3⟩:=hx.cells h0
 obtain ⟨h1,h2⟩:=hr.newBox ⟨(AK x).length,[AK x],(AK x).all AC⟩ cx.cells ty (by simp) (by simpa using c2) (by dsimp only; omega) (by simp) (by simp [c1])
  (fun i e j a hi hj=>by
   cases i with
   | zero=>
    simp at hi; subst hi
    simpa using c3 j a hj
   | succ i=>simp at hi)
 refine ⟨_,h1,h2,.bp _ _ _ _ _ _ ⟨(AK x).length,[AK x],(AK x).all AC⟩ (by simp [A5]) (by simp) (fun _=>⟨w.heap.size,0,by simp [BB],by omega,by simp,by simp⟩)⟩
theorem X1 (hr:Rel g0 X m A S w) {t:TypeId} {z:List AV} (hz:EP P t = some z) (h0:z.length≠0) :
  Ok P g0 X m A S w (Instr.alloc t true (.tuple #[])) (A5 S z).1 (A5 S z).2:=by
 unfold EP at hz
 split at hz <;> try (cases hz; done)
 rename_i i hi
 rw [Option.map_eq_some_iff] at hz
 obtain ⟨zv,hzv,rfl⟩:=hz
 obtain ⟨m',h1,h2,h3⟩:=M3 hr (VR.ofV zv) h0 t
 exact ⟨m',A,_,_,by simp [Instr.alloc,zeroValue,typeInfo,hi,hzv,newVar,newRow],h1,h2,h3⟩
theorem e9 (hr:Rel g0 X m A S w) {x:AV} {cx:Value} (hx:VR X m A S w x cx) (h0:(AK x).length≠0) (t:TypeId) :
  Ok P g0 X m A S w (Instr.box t cx) (A5 S (AK x)).1 (A5 S (AK x)).2:=by
 obtain ⟨m',h1,h2,h3⟩:=M3 hr hx h0 t
 exact ⟨m',A,_,_,by simp [Instr.box,newVar,newRow],h1,h2,h3⟩
theorem M8 (vs:List Value) (off:Nat):∀ (cs:Array Value),(vs.zipIdx.foldl (fun cs (c,j)=>cs.setIfInBounds (off + j) c) cs).size = cs.size ∧
  ∀ q,off + vs.length≤cs.size→(vs.zipIdx.foldl (fun cs (c,j)=>cs.setIfInBounds (off + j) c) cs)[q]? = if off≤q∧q < off + vs.length then vs[q - off]? else cs[q]?:=by
 suffices ∀ (vs:List Value) (k:Nat) (cs:Array Value),((vs.zipIdx k).foldl (fun cs (c,j)=>cs.setIfInBounds (off + j) c) cs).size = cs.size ∧
   ∀ q,off + k + vs.length≤cs.size→((vs.zipIdx k).foldl (fun cs (c,j)=>cs.setIfInBounds (off + j) c) cs)[q]? = if off + k≤q∧q < off + k + vs.length then vs[q - (off + k)]? else cs[q]? by
  intro cs; simpa using this vs 0 cs
 intro vs
 induction vs with
 | nil=>
  intro k cs
  refine ⟨rfl,fun q _=>?_⟩
  rw [if_neg (by simp)]; rfl
 | cons v vs ih=>
  intro k cs
  simp only [List.zipIdx_cons,List.foldl_cons]
  obtain ⟨h1,h2⟩:=ih (k + 1) (cs.setIfInBounds (off + k) v)
  refine ⟨by rw [h1]; simp,fun q hq=>?_⟩
  simp only [List.length_cons] at hq
  rw [h2 q (by simp; omega)]
  by_cases q1:q = off + k
  ·subst q1
   rw [if_neg (by omega),if_pos (by simp)]
   simp [show off + k < cs.size by omega]
  ·by_cases q2:off + k≤q∧q < off + k + (vs.length + 1)
   ·rw [if_pos (by omega),if_pos (by simpa using q2)]
    rw [show q - (off + k) = (q - (off + (k + 1))) + 1 by omega]
    simp
   ·rw [if_neg (by omega),if_neg (by simpa using q2)]
    rw [Array.getElem?_setIfInBounds_ne (by omega)]
theorem RN {place:Nat→Option (Nat×Nat)}:∀ (parts:List (Nat×AV)) (cparts:List (Nat×Value)) (cells:List AV) (ccells:Array Value) (r:List AV),
  CR X m A S w cells ccells→(∀ a∈cells,Bv a = true)→parts.length = cparts.length →
  (∀ (j i:Nat) (x:AV) (i':Nat) (y:Value),parts[j]? = some (i,x)→cparts[j]? = some (i',y)→i = i'∧VR X m A S w x y) →
  Bq place cells parts = some r→∃ cr,Instr.fill place ccells cparts = some cr∧CR X m A S w r cr∧∀ a∈r,Bv a = true
 | [],[],cells,ccells,r,hc,hce,_,_,h=>by
  simp [Bq] at h; subst h
  exact ⟨ccells,rfl,hc,hce⟩
 | (i,x)::parts,(i',y)::cparts,cells,ccells,r,hc,hce,hl,hp,h=>by
  obtain ⟨rfl,hx⟩:=hp 0 i x i' y rfl rfl
  simp only [Bq] at h
  split at h <;> try (cases h; done)
  rename_i off size hplace
  split at h <;> try (cases h; done)
  rename_i hcond
  obtain ⟨hs,h1,h2⟩:=hcond
  obtain ⟨c1,c2,c3⟩:=hx.cells (by rw [h1]; exact hs)
  have hfs:=M8 y.cells.toList off ccells
  have hput:off + (AK x).length≤cells.length:=by omega
  obtain ⟨cr,e1,e2,e3⟩:=RN parts cparts (BL cells off (AK x)) (y.cells.toList.zipIdx.foldl (fun cs (c,j)=>cs.setIfInBounds (off + j) c) ccells) r
   ⟨by rw [Gn _ _ _ hput,hfs.1,hc.1],fun q a v hq hv=>by
    rw [Ek _ _ _ hput] at hq
    rw [hfs.2 q (by have:=hc.1; simp; omega)] at hv
    split at hq
    ·rename_i hin
     rw [if_pos (by simp; omega)] at hv
     obtain ⟨u,hu,hvr⟩:=c3 _ _ hq
     simp only [Array.getElem?_toList] at hv
     rw [hu] at hv; injection hv with hv; subst hv
     exact hvr
    ·rename_i hout
     rw [if_neg (by simp; omega)] at hv
     exact hc.2 q a v hq hv⟩
   (fun a ha=>by
    obtain ⟨j,hj⟩:=List.mem_iff_getElem?.1 ha
    rw [Ek _ _ _ hput] at hj
    split at hj
    ·exact c2 a (List.mem_of_getElem? hj)
    ·exact hce a (List.mem_of_getElem? hj))
   (by simpa using hl) (fun j i x i' y h h'=>hp (j + 1) i x i' y (by simpa using h) (by simpa using h')) h
  refine ⟨cr,?_,e2,e3⟩
  have hcs:=hc.1
  have hsz:y.cells.size = size:=by omega
  simp only [Instr.fill,hplace]
  rw [if_neg (by simp; omega)]
  rw [← e1]
  congr 2
  rw [← Array.foldl_toList,Array.toList_zipIdx]
 | [],_::_,_,_,_,_,_,hl,_,_=>by simp at hl
 | _::_,[],_,_,_,_,_,hl,_,_=>by simp at hl
end Go.Rf
