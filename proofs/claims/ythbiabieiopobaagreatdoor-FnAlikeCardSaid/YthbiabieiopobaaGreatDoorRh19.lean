/- A map that a function makes for itself, beside the evaluator's store. -/
import Derived.Test.YthbiabieiopobaaGreatDoorRf22
import Derived.Maps.OwnSet
import Derived.LoopN
set_option linter.unusedVariables false
set_option linter.unusedSimpArgs false
namespace Go.Rf
open Go
variable {g0:Nat} {X:Nat→Prop} {m:Bd} {A:Nat→Prop} {S:St} {w:World}
variable {m0:Bd} {A0:Nat→Prop} {S0:St} {w0:World} {W:List Nat} {a0:Act}
def M7 (v:Value):Option (DataW Value×List MemPlace):=some (.held v,[])
theorem Xg {w:World} {b o:Nat} {es:Array MapEntry} {c:Nat} (h:w.heap[b]? = some (.map es c)):w.cell? ⟨b,o,none⟩ = none:=by
 simp [World.cell?,h]
theorem VR.turn {w':World} {blk:Nat} (hm:∀ o,w.cell? ⟨blk,o,none⟩ = none) (hk:∀ c,c≠blk→w'.heap[c]? = w.heap[c]?) (hn:¬ rng m blk) {a:AV} {v:Value} (h:VR X m A S w a v):VR X m A S w' a v:=by
 have hcell:∀ b o u,w.cell? ⟨b,o,none⟩ = some u→w'.cell? ⟨b,o,none⟩ = some u:=fun b o u e=>by
  by_cases q:b = blk
  ·subst q; rw [hm o] at e; cases e
  ·rw [← e]; simp [World.cell?,hk b q]
 induction h with
 | int k n=>exact .int k n
 | bool b=>exact .bool b
 | str s=>exact .str s
 | nilp=>exact .nilp
 | nilf=>exact .nilf
 | nili=>exact .nili
 | errv t v=>exact .errv t v
 | ub b=>exact .ub b
 | dead v h=>exact .dead v h
 | non v=>exact .non v
 | agg cs vs hl hc _ ih=>exact .agg cs vs hl hc ih
 | tup cs vs hl _ ih=>exact .tup cs vs hl ih
 | fn f cs vs hl _ ih=>exact .fn f cs vs hl ih
 | rsl0 l fl a cap h=>exact .rsl0 l fl a cap h
 | rsl l fl es b off s cap val hA hX hfl hle hlen hce hc _ ih=>
  exact .rsl l fl es b off s cap val hA hX hfl hle hlen hce (fun i j hi hj=>hcell _ _ _ (hc i j hi hj)) ih
 | rp l cs b off val hA hX hce hc _ ih=>exact .rp l cs b off val hA hX hce (fun j hj=>hcell _ _ _ (hc j hj)) ih
 | bp b i o n L ad B hB hL h=>exact .bp b i o n L ad B hB hL h
 | bsl b i n L fl ad cap B hB hL h=>
  refine .bsl b i n L fl ad cap B hB hL (fun e=>?_)
  obtain ⟨bk,base,h1,h2,h3,h4,h5,h6,h7⟩:=h e
  refine ⟨bk,base,h1,h2,h3,h4,h5,h6,fun q hq=>h7 q ?_⟩
  rw [← hq]
  exact (D4 (hk bk fun e=>hn ⟨b,base,e ▸ h1⟩)).symm
theorem Rel.turn {w':World} {blk:Nat} (hr:Rel g0 X m A S w) (hm:∀ o,w.cell? ⟨blk,o,none⟩ = none) (hk:∀ c,c≠blk→w'.heap[c]? = w.heap[c]?) (hs:w'.heap.size = w.heap.size) (hn:¬ rng m blk):Rel g0 X m A S w':=by
 refine ⟨fun b bk base h=>?_,hr.inj,fun b bk o h=>by rw [hs]; exact hr.dis b bk o h,fun c h=>by rw [hs]; exact hr.alt c h,fun c h=>by rw [hs]; exact hr.xlt c h,by rw [hs]; exact hr.glt⟩
 obtain ⟨B,hB,hb⟩:=hr.box b bk base h
 obtain ⟨arr,ty,h1,h2,h3⟩:=hb.blk
 refine ⟨B,hB,hb.len,hb.cell,hb.pos,hb.pl,arr,ty,by rw [hk bk fun e=>hn ⟨b,base,e ▸ h⟩]; exact h1,h2,fun i e j a hi hj=>?_⟩
 obtain ⟨v,hv,hr'⟩:=h3 i e j a hi hj
 exact ⟨v,hv,hr'.turn hm hk hn⟩
structure MAt (P:Program) (kt:TypeId) (g0:Nat) (X:Nat→Prop) (m0:Bd) (A0:Nat→Prop) (S0:St) (w0:World) (W:List Nat) (a0:Act) (T:List Nat) (blk n:Nat) (D:DataW Value)
  (fr:List AV) (S:St) (m:Bd) (A:Nat→Prop) (a:Act) (w:World):Prop where
 at_:At g0 X m0 A0 S0 w0 W a0 fr S m A a w
 own:w.ownsMap P kt M7 blk n D
 lo:w0.heap.size≤blk
 nr:¬ rng m blk
 sl:∀ t∈T,a.tmps[t]? = some (.map (some blk))
variable {P:Program} {kt:TypeId} {T:List Nat} {blk n:Nat} {D:DataW Value} {fr:List AV} {a:Act}
theorem VB {w':World} (h:w.ownsMap P kt M7 blk n D) (hk:w'.heap[blk]? = w.heap[blk]?):w'.ownsMap P kt M7 blk n D:=by
 obtain ⟨es,clock,hb,F,hs,hD⟩:=h
 exact ⟨es,clock,hk.trans hb,F,hs,hD⟩
theorem MAt.step (h:MAt P kt g0 X m0 A0 S0 w0 W a0 T blk n D fr S m A a w) {m':Bd} {A':Nat→Prop} {S':St} {w':World} {fr':List AV} {a':Act} (hat:At g0 X m0 A0 S0 w0 W a0 fr' S' m' A' a' w') (he:Ext m A S w m' A' S' w') (hT:∀ t∈T,a'.tmps[t]? = a.tmps[t]?) :
  MAt P kt g0 X m0 A0 S0 w0 W a0 T blk n D fr' S' m' A' a' w':=by
 refine ⟨hat,VB h.own (he.kp.block blk h.own.lt h.nr),h.lo,?_,fun t ht=>(hT t ht).trans (h.sl t ht)⟩
 rintro ⟨b,o,hb⟩
 rcases he.mn b blk o hb with h1 | h1
 ·exact h.nr ⟨b,o,h1⟩
 ·have:=h.own.lt; omega
theorem OY {C:Cfg} {G:World→Prop} (hL:Pg g0 G) (hN:Di C.P) {run:FuncId→List AV→St→Option (AV×St)} (hrun:Gt C.P g0 G run) {f:FuncId} {ρ:Type} {k:List AV→St→Option ρ} {r:ρ} {ops:Array Oper} {rest:List Oper}
  {Q:Exit→Act→World→Prop} :
  ∀ (l:List Oper) (sk:List Nat) (fr:List AV) (S:St) (m:Bd) (A:Nat→Prop) (a:Act) (w:World),GY sk fr→(∀ o∈l,∀ t,o.dst = some t→t∈W∧t ∉ T)→Gu C run f ops k l sk fr S = some r →
   MAt C.P kt g0 X m0 A0 S0 w0 W a0 T blk n D fr S m A a w→G w→(∀ fr S m A a w,k fr S = some r→G w→MAt C.P kt g0 X m0 A0 S0 w0 W a0 T blk n D fr S m A a w→wpList C.P ops Q rest a w)→wpList C.P ops Q (l++rest) a w
 | [],sk,fr,S,m,A,a,w,_,_,h,hat,hG,hQ=>hQ fr S m A a w h hG hat
 | o::l,sk,fr,S,m,A,a,w,hsk,hW,h,hat,hG,hQ=>by
  have ih:=OY (f:=f) (ops:=ops) (k:=k) (r:=r) (rest:=rest) (Q:=Q) hL hN hrun l
  have hWr:∀ o∈l,∀ t,o.dst = some t→t∈W∧t ∉ T:=fun o ho=>hW o (by simp [ho])
  have hW0:∀ t,o.dst = some t→t∈W:=fun t ht=>(hW o (by simp) t ht).1
  have hT0:∀ (v:Value) t,t∈T→(a.put o.dst v).tmps[t]? = a.tmps[t]?:=fun v t ht=>by
   cases hd:o.dst with
   | none=>rfl
   | some d=>
    simp only [Act.put]
    refine Array.getElem?_setIfInBounds_ne fun e=>(hW o (by simp) d hd).2 ?_
    rw [e]; exact ht
  have step:(Q9 C run f fr S o fun v S=>Gu C run f ops k l (NP sk o.dst) (DG fr o.dst v) S) = some r→o.wp C.P a w (wpList C.P ops Q (l++rest)) Q:=by
   intro h'
   obtain ⟨v,S1,h1,h2⟩:=FN h'
   refine NH hN hrun hat.at_.rel hG hat.at_.fr h1 _ _ (fun m' A' w' cv k1 k2 k3=>?_)
   exact ih _ _ _ m' A' _ w' (hsk.del o.dst v) hWr h2 (hat.step (hat.at_.put k1 k2 k3 o.dst hW0) k2 (hT0 cv)) (hL.ext hat.at_.rel k2 hG) hQ
  have skip:Gu C run f ops k l (LI sk o.dst) (DG fr o.dst und) S = some r→wpList C.P ops Q (l++rest) (a.put o.dst undef) w:=by
   intro h'
   exact ih _ _ _ m A _ w (hsk.add o.dst) hWr h' (hat.step (hat.at_.put hat.at_.rel (Ext.refl _ _ _ _) VR.und o.dst hW0) (Ext.refl _ _ _ _) (hT0 undef)) hG hQ
  simp only [Gu] at h
  show wpList C.P ops Q (o::(l++rest)) a w
  unfold wpList
  split at h
  ·rename_i hg
   rw [if_pos (by simp [Region.wanted,hg])]
   exact .inl (step h)
  ·rename_i j want hg
   split at h <;> try (cases h; done)
   rename_i t ht
   by_cases hs:Ff sk t = true
   ·rw [hs] at h
    simp only [cond_true] at h
    have hy:=Gv ht hat.at_.fr (hsk t hs)
    rw [if_neg (by simp [Region.wanted,hg,hy])]
    exact skip h
   ·have hs':Ff sk t = false:=by simpa using hs
    rw [hs'] at h
    simp only [cond_false] at h
    split at h <;> try (cases h; done)
    rename_i b hb
    have hy:=FP ht hat.at_.fr hb
    by_cases hbw:(b == want) = true
    ·rw [hbw] at h
     simp only [cond_true] at h
     have e1:b = want:=by simpa using hbw
     rw [if_pos (by simp [Region.wanted,hg,hy,e1])]
     rw [FF (e1 ▸ hb)] at h
     exact .inl (step h)
    ·have hbw':(b == want) = false:=by simpa using hbw
     rw [hbw'] at h
     simp only [cond_false] at h
     have e1:b = !want:=by cases b <;> cases want <;> simp_all
     rw [if_neg (by simp [Region.wanted,hg,hy,e1])]
     rw [FF (e1 ▸ hb)] at h
     exact skip h
theorem FR.mask (rs:List Nat) (hf:FR X m A S w fr a):FR X m A S w (mask rs fr) a:=by
 refine ⟨by simp [Go.Rf.mask]; exact hf.1,fun t v cv h1 h2=>?_⟩
 rw [G3,Option.map_eq_some_iff] at h1
 obtain ⟨v0,h0,rfl⟩:=h1
 split
 ·exact hf.2 t v0 cv h0 h2
 ·exact .non _
theorem MAt.mask (rs:List Nat) (h:MAt P kt g0 X m0 A0 S0 w0 W a0 T blk n D fr S m A a w):MAt P kt g0 X m0 A0 S0 w0 W a0 T blk n D (mask rs fr) S m A a w:=
 ⟨⟨h.at_.rel,h.at_.ext,h.at_.fr.mask rs,h.at_.defers,h.at_.keeps⟩,h.own,h.lo,h.nr,h.sl⟩
theorem At.mask (rs:List Nat) (h:At g0 X m0 A0 S0 w0 W a0 fr S m A a w):At g0 X m0 A0 S0 w0 W a0 (mask rs fr) S m A a w:=⟨h.rel,h.ext,h.fr.mask rs,h.defers,h.keeps⟩
theorem HZ {ops:Array Oper} {rest:List Oper} {Q:Exit→Act→World→Prop} {o:Oper} {s d:Nat} (hg:o.guard = none) (hop:o.op = .move (.tmp s)∨o.op = .assign (.tmp s)) (hd:o.dst = some d) (hW:d∈W) (hs:s∈T) (hsz:d < fr.length)
  (h:MAt P kt g0 X m0 A0 S0 w0 W a0 T blk n D fr S m A a w) (hQ:∀ a,MAt P kt g0 X m0 A0 S0 w0 W a0 (d::T) blk n D (fr.set d .non) S m A a w→wpList P ops Q rest a w):wpList P ops Q (o::rest) a w:=by
 refine wpList_plain hg fun K hK=>?_
 have hev:a.eval (.tmp s) = .map (some blk):=by
  simp [Act.eval,h.sl s hs]
 have hsz':d < a.tmps.size:=by rw [← h.at_.fr.1]; exact hsz
 have hnext:MAt P kt g0 X m0 A0 S0 w0 W a0 (d::T) blk n D (fr.set d .non) S m A (a.put o.dst (.map (some blk))) w:=by
  refine ⟨h.at_.put h.at_.rel (Ext.refl _ _ _ _) (v:=.non) (.non _) o.dst (fun t ht=>by rw [hd] at ht; injection ht with ht; exact ht ▸ hW) |> fun q=>by rw [hd] at q ⊢; exact q,h.own,h.lo,h.nr,fun t ht=>?_⟩
  rw [hd]
  simp only [Act.put]
  by_cases e:d = t
  ·subst e; simp [hsz']
  ·rw [Array.getElem?_setIfInBounds_ne e]
   exact h.sl t ((List.mem_cons.1 ht).resolve_left fun q=>e q.symm)
 unfold Oper.wp
 rcases hop with hop | hop <;>
 ·simp only [execOp,hop,hev,Sem.run_pure,Sem.run_bind,Result.andThen_ok]
  exact hK _ _ (hQ _ hnext)
end Go.Rf
namespace Go.Rf
open Go
variable {g0:Nat} {X:Nat→Prop} {m:Bd} {A:Nat→Prop} {S:St} {w:World}
variable {m0:Bd} {A0:Nat→Prop} {S0:St} {w0:World} {W:List Nat} {a0:Act}
variable {P:Program} {kt:TypeId} {T:List Nat} {blk n:Nat} {D:DataW Value} {fr:List AV} {a:Act}
variable {ops:Array Oper} {rest:List Oper} {Q:Exit→Act→World→Prop} {o:Oper}
theorem VV {t:TypeId} {d:Nat} (hg:o.guard = none) (hop:o.op = .makeMap t none) (hd:o.dst = some d) (hW:d∈W) (hsz:d < fr.length)
  (h:At g0 X m0 A0 S0 w0 W a0 fr S m A a w) (hQ:∀ A a w blk,MAt P kt g0 X m0 A0 S0 w0 W a0 [d] blk 0 (.map []) (fr.set d .non) S m A a w→wpList P ops Q rest a w):wpList P ops Q (o::rest) a w:=by
 refine wpList_plain hg fun K hK=>?_
 obtain ⟨hr,he⟩:=h.rel.newRo (.map #[] 0)
 have hsz':d < a.tmps.size:=by rw [← h.fr.1]; exact hsz
 have hat:=h.put hr he (v:=.non) (cv:=.map (some w.heap.size)) (.non _) o.dst (fun t ht=>by rw [hd] at ht; injection ht with ht; exact ht ▸ hW)
 unfold Oper.wp
 simp only [execOp,hop,Option.map_none,show (Instr.makeMap t none).run P w = .ok (.map (some w.heap.size)) (w.alloc (.map #[] 0)) from rfl,Sem.run_pure,Sem.run_bind,Result.andThen_ok]
 have hat':At g0 X m0 A0 S0 w0 W a0 (fr.set d .non) S m (fun c=>A c∨c = w.heap.size) (a.put o.dst (.map (some w.heap.size))) (w.alloc (.map #[] 0)):=by
  rw [hd] at hat ⊢; exact hat
 refine hK _ _ (hQ _ _ _ w.heap.size ⟨hat',World.ownsMap_made w P kt M7,h.ext.kp.size,?_,fun t ht=>?_⟩)
 ·rintro ⟨b,o',hb⟩
  have:=(h.rel.dis b _ o' hb).2.2.2
  omega
 ·rw [List.mem_singleton] at ht
  subst ht
  rw [hd]
  simp [Act.put,hsz']
theorem Wx {t et:TypeId} {s d:Nat} {x:Operand} {key:Int} {z v0:Value} {val:AV} (K:Maps.Keyed P kt) (hk:P.underlying kt = some (.int .i64)) (ht:P.underlying t = some (.map kt et)) (hz:∀ w,(zeroValue et).run P w = .ok z w)
  (hg:o.guard = none) (hop:o.op = .lookup t (.tmp s) x true) (hd:o.dst = some d) (hW:d∈W) (hT:d ∉ T) (hs:s∈T)
  (h:MAt P kt g0 X m0 A0 S0 w0 W a0 T blk n D fr S m A a w) (hx:aev fr x = .int .i64 key) (hwf:(Lit.int .i64 key).wf = true) (hat:D.atKey (.int .i64 key) (.held z) = .held v0) (hv:VR X m A S w val v0)
  (hQ:∀ a,MAt P kt g0 X m0 A0 S0 w0 W a0 T blk n D (fr.set d (.tup [val,.bool (Maps.has D (.int .i64 key))])) S m A a w→wpList P ops Q rest a w):wpList P ops Q (o::rest) a w:=by
 refine wpList_plain hg fun K' hK'=>?_
 have hev:a.eval (.tmp s) = .map (some blk):=by simp [Act.eval,h.sl s hs]
 have hex:a.eval x = .int .i64 key:=by
  have:=h.at_.fr.eval x
  rw [hx] at this
  generalize a.eval x = u at this
  cases this; rfl
 obtain ⟨v,ps,hrun,hR⟩:=h.own.look_ok K ht (hz w) (zd:=.held z) (zp:=[]) rfl (Maps.keyOf_int_mk hk hwf)
 have e:v = v0:=by
  unfold M7 at hR
  rw [hat] at hR
  injection hR with hR; injection hR with hR _; injection hR
 subst e
 have hput:=h.at_.put h.at_.rel (Ext.refl _ _ _ _) (v:=.tup [val,.bool (Maps.has D (.int .i64 key))]) (cv:=.tuple #[v,.bool (Maps.has D (.int .i64 key))]) (.tup _ _ rfl fun i a u h1 h2=>by
  match i with
  | 0=>simp at h1 h2; subst h1; subst h2; exact hv
  | 1=>simp at h1 h2; subst h1; subst h2; exact .bool _
  | i + 2=>simp at h1) o.dst (fun t ht=>by rw [hd] at ht; injection ht with ht; exact ht ▸ hW)
 unfold Oper.wp
 simp only [execOp,hop,hev,hex,hrun,Sem.run_pure,Sem.run_bind,Result.andThen_ok]
 refine hK' _ _ (hQ _ ⟨?_,h.own,h.lo,h.nr,fun t ht=>?_⟩)
 ·rw [hd] at hput ⊢; exact hput
 ·rw [hd]
  simp only [Act.put]
  rw [Array.getElem?_setIfInBounds_ne (fun e=>hT (by rw [e]; exact ht))]
  exact h.sl t ht
theorem Wy {t et:TypeId} {s d:Nat} {x:Operand} {key:Int} {z v0:Value} {val:AV} (K:Maps.Keyed P kt) (hk:P.underlying kt = some (.int .i64)) (ht:P.underlying t = some (.map kt et)) (hz:∀ w,(zeroValue et).run P w = .ok z w)
  (hg:o.guard = none) (hop:o.op = .lookup t (.tmp s) x false) (hd:o.dst = some d) (hW:d∈W) (hT:d ∉ T) (hs:s∈T)
  (h:MAt P kt g0 X m0 A0 S0 w0 W a0 T blk n D fr S m A a w) (hx:aev fr x = .int .i64 key) (hwf:(Lit.int .i64 key).wf = true) (hat:D.atKey (.int .i64 key) (.held z) = .held v0) (hv:VR X m A S w val v0)
  (hQ:∀ a,MAt P kt g0 X m0 A0 S0 w0 W a0 T blk n D (fr.set d val) S m A a w→wpList P ops Q rest a w):wpList P ops Q (o::rest) a w:=by
 refine wpList_plain hg fun K' hK'=>?_
 have hev:a.eval (.tmp s) = .map (some blk):=by simp [Act.eval,h.sl s hs]
 have hex:a.eval x = .int .i64 key:=by
  have:=h.at_.fr.eval x
  rw [hx] at this
  generalize a.eval x = u at this
  cases this; rfl
 obtain ⟨v,ps,hrun,hR⟩:=h.own.lookup K ht (hz w) (zd:=.held z) (zp:=[]) rfl (Maps.keyOf_int_mk hk hwf)
 have e:v = v0:=by
  unfold M7 at hR
  rw [hat] at hR
  injection hR with hR; injection hR with hR _; injection hR
 subst e
 have hput:=h.at_.put h.at_.rel (Ext.refl _ _ _ _) hv o.dst (fun t ht=>by rw [hd] at ht; injection ht with ht; exact ht ▸ hW)
 unfold Oper.wp
 simp only [execOp,hop,hev,hex,hrun,Sem.run_pure,Sem.run_bind,Result.andThen_ok]
 refine hK' _ _ (hQ _ ⟨?_,h.own,h.lo,h.nr,fun t ht=>?_⟩)
 ·rw [hd] at hput ⊢; exact hput
 ·rw [hd]
  simp only [Act.put]
  rw [Array.getElem?_setIfInBounds_ne (fun e=>hT (by rw [e]; exact ht))]
  exact h.sl t ht
theorem Yf {t et:TypeId} {s:Nat} {x y:Operand} {key:Int} {v0:Value} {val:AV} (K:Maps.Keyed P kt) (hk:P.underlying kt = some (.int .i64)) (ht:P.underlying t = some (.map kt et))
  (hg:o.guard = none) (hop:o.op = .mapUpdate t (.tmp s) x y) (hd:o.dst = none) (hs:s∈T) (hn:n < maxLen)
  (h:MAt P kt g0 X m0 A0 S0 w0 W a0 T blk n D fr S m A a w) (hx:aev fr x = .int .i64 key) (hwf:(Lit.int .i64 key).wf = true) (hy:aev fr y = val) (hv:∀ cv,VR X m A S w val cv→cv = v0)
  (hQ:∀ w,MAt P kt g0 X m0 A0 S0 w0 W a0 T blk (n + 1) (D.put (.int .i64 key) (.held v0)) fr S m A a w→wpList P ops Q rest a w):wpList P ops Q (o::rest) a w:=by
 refine wpList_plain hg fun K' hK'=>?_
 have hev:a.eval (.tmp s) = .map (some blk):=by simp [Act.eval,h.sl s hs]
 have hex:a.eval x = .int .i64 key:=by
  have:=h.at_.fr.eval x
  rw [hx] at this
  generalize a.eval x = u at this
  cases this; rfl
 have hey:a.eval y = v0:=hv _ (hy ▸ h.at_.fr.eval y)
 obtain ⟨w',hrun,hown,es,clock,es',clock',hb,hw⟩:=h.own.store K ht hn (Maps.keyOf_int_mk hk hwf) (val:=v0) (d:=.held v0) (ps:=[]) rfl
 have hm:∀ o,w.cell? ⟨blk,o,none⟩ = none:=fun o=>Xg hb
 have hkk:∀ c,c≠blk→w'.heap[c]? = w.heap[c]?:=fun c hc=>by rw [hw]; exact ChangeMaps.heap_setBlock_other hb _ hc
 have hsz:w'.heap.size = w.heap.size:=by rw [hw]; simp [ChangeMaps.setBlock]
 have hlo:=h.lo
 have hrel:=h.at_.rel.turn hm hkk hsz h.nr
 have hext:Ext m0 A0 S0 w0 m A S w':=⟨⟨by rw [hw]; exact h.at_.ext.kp.os,by rw [hw]; exact h.at_.ext.kp.tape,by rw [hw]; exact h.at_.ext.kp.output,by rw [hsz]; exact h.at_.ext.kp.size,
  fun c hc hM=>(hkk c (by omega)).trans (h.at_.ext.kp.block c hc hM),fun c hc=>(D4 (hkk c (by omega))).trans (h.at_.ext.kp.shape c hc)⟩,h.at_.ext.aa,h.at_.ext.an,h.at_.ext.mn,h.at_.ext.len,h.at_.ext.st⟩
 unfold Oper.wp
 simp only [execOp,hop,hev,hex,hey,hrun,Sem.run_pure,Sem.run_bind,Result.andThen_ok]
 refine hK' _ _ ?_
 rw [show a.put o.dst undef = a from by rw [hd]; rfl]
 exact hQ _ ⟨⟨hrel,hext,⟨h.at_.fr.1,fun t v cv h1 h2=>(h.at_.fr.2 t v cv h1 h2).turn hm hkk h.nr⟩,h.at_.defers,h.at_.keeps⟩,hown,h.lo,h.nr,h.sl⟩
theorem MAt.cast {fr':List AV} (h:MAt P kt g0 X m0 A0 S0 w0 W a0 T blk n D fr S m A a w) (e:fr = fr'):MAt P kt g0 X m0 A0 S0 w0 W a0 T blk n D fr' S m A a w:=e ▸ h
theorem MAt.less {T':List Nat} (h:MAt P kt g0 X m0 A0 S0 w0 W a0 T blk n D fr S m A a w) (hT:∀ t∈T',t∈T):MAt P kt g0 X m0 A0 S0 w0 W a0 T' blk n D fr S m A a w:=⟨h.at_,h.own,h.lo,h.nr,fun t ht=>h.sl t (hT t ht)⟩
theorem At.evalB {t:Nat} {b:Bool} (h:At g0 X m0 A0 S0 w0 W a0 fr S m A a w) (hb:aev fr (.tmp t) = .bool b):a.eval (.tmp t) = .bool b:=by
 have:=h.fr.eval (.tmp t)
 rw [hb] at this
 generalize a.eval (.tmp t) = u at this
 cases this; rfl
theorem j6:Pg g0 (fun _=>True):=⟨fun _ _ _ _ _ _ _ _ _=>trivial⟩
theorem WH {v0:AV} {S0':St} {e:Ending} {w':World} (hr:Rel g0 X m A S w) (h:ED g0 (fun c=>X c∨rng m c) (fun _=>none) (fun c=>A c∨rng m c) [] w v0 S0' e w'):ED g0 X m A S w (fzr S0' v0) S e w':=by
 obtain ⟨cv,m1,A1,rfl,k1,k2,k3⟩:=h
 have hblock:∀ c,c < w.heap.size→w'.heap[c]? = w.heap[c]?:=fun c hc=>k2.kp.block c hc (fun ⟨b,o,hb⟩=>by cases hb)
 have he:Ext m A S w m (fun c=>A c∨(w.heap.size≤c∧c < w'.heap.size)) S w':=
  ⟨⟨k2.kp.os,k2.kp.tape,k2.kp.output,k2.kp.size,fun c hc _=>hblock c hc,fun c hc=>D4 (hblock c hc)⟩,fun _ h=>.inl h,fun c h=>h.imp id (·.1),fun _ _ _ h=>.inl h,Nat.le_refl _,
   fun _ B h=>⟨B,h,rfl,Nat.le_refl _,fun _=>rfl⟩⟩
 have hr':Rel g0 X m (fun c=>A c∨(w.heap.size≤c∧c < w'.heap.size)) S w':=by
  refine ⟨fun b blk base h=>?_,hr.inj,fun b blk o h=>?_,fun c h=>?_,fun c h=>Nat.lt_of_lt_of_le (hr.xlt c h) k2.kp.size,Nat.le_trans hr.glt k2.kp.size⟩
  ·obtain ⟨B,hB,hb⟩:=hr.box b blk base h
   exact ⟨B,hB,hr.keepBox (b:=b) he (hblock blk (hr.dis b blk base h).2.2.2) hb⟩
  ·obtain ⟨q1,q2,q3,q4⟩:=hr.dis b blk o h
   exact ⟨fun h=>h.elim q1 (fun h=>by omega),q2,q3,Nat.lt_of_lt_of_le q4 k2.kp.size⟩
  ·exact h.elim (fun h=>Nat.lt_of_lt_of_le (hr.alt c h) k2.kp.size) (·.2)
 refine ⟨cv,m,_,rfl,hr',he,?_⟩
 have hf:=KQ k1 (X2:=fun c=>X c∨rng m c) (m2:=fun _=>none) (A2:=fun c=>A1 c∨rng m1 c) (S2:=[]) false (fun c h=>.inl h) (fun c h=>.inr h) (fun c _ h=>h)
  (fun _ c ⟨b,o,hb⟩=>(k1.dis b c o hb).2.1) 8 v0 cv k3
 refine QY (VR.scrubbed (fun c hc hX=>?_) hf (GP _ _ _ _))
 refine ⟨?_,fun h=>hX (.inl h)⟩
 rcases hc with hc | ⟨b,o,hb⟩
 ·rcases k2.an c hc with h | h
  ·rcases h with h | h
   ·exact .inl h
   ·exact absurd (.inr h) hX
  ·exact .inr ⟨h,k1.alt c hc⟩
 ·rcases k2.mn b c o hb with h | h
  ·cases h
  ·exact .inr ⟨h,(k1.dis b c o hb).2.2.2⟩
def cAV (c:Int×Int×Int):List AV:=[.int .i64 c.1,.int .i64 c.2.1,.int .i64 c.2.2]
def vC (c:Int×Int×Int):Value:=.agg #[.int .i64 c.1,.int .i64 c.2.1,.int .i64 c.2.2]
def bxC (c:Int×Int×Int):Box:=⟨3,[cAV c],true⟩
theorem QE (c:Int×Int×Int):VR X m A S w (.agg (cAV c)) (vC c):=.agg _ _ rfl (fun a ha=>by
 simp only [cAV,List.mem_cons,List.not_mem_nil,or_false] at ha
 rcases ha with rfl | rfl | rfl <;> rfl) fun i a v h1 h2=>by
 match i with
 | 0=>simp [cAV,vC] at h1 h2; subst h1; subst h2; exact .int _ _
 | 1=>simp [cAV,vC] at h1 h2; subst h1; subst h2; exact .int _ _
 | 2=>simp [cAV,vC] at h1 h2; subst h1; subst h2; exact .int _ _
 | i + 3=>simp [cAV] at h1
theorem Un {c:Int×Int×Int} {cv:Value} (h:VR X m A S w (.agg (cAV c)) cv):cv = vC c:=by
 cases h with
 | agg cs vs hl hc hall=>
  match vs,hl with
  | ⟨[a,b,d]⟩,_=>
   have h0:=hall 0 _ a rfl rfl
   have h1:=hall 1 _ b rfl rfl
   have h2:=hall 2 _ d rfl rfl
   cases h0; cases h1; cases h2; rfl
theorem jU (S:St):A5 S [AV.int .i64 0,AV.int .i64 0,AV.int .i64 0] = (.bp S.length 0 0 3 1,S++[⟨3,[[AV.int .i64 0,AV.int .i64 0,AV.int .i64 0]],true⟩]):=rfl
theorem iU (S:St) (B:Box) (hl:B.es.length = 1) (he:∃ e,B.es[0]? = some e∧e.length = 3) (hs:B.sz = 3) (hp:B.pl = true) (c:Int×Int×Int):Aj 3 (.bp S.length 0 0 3 1) (.agg (cAV c)) (S++[B]) = some (und,S++[bxC c]):=by
 obtain ⟨e,he,hle⟩:=he
 obtain ⟨sz,es,pl⟩:=B
 dsimp only at hl he hs hp
 subst hs; subst hp
 match es,hl with
 | [e'],_=>
  simp at he; subst he
  match e',hle with
  | [x,y,z],_=>simp [Aj,stA,AK,cAV,BL,bxC,AC,List.getElem?_append_right]
theorem ldf {S:St} {b:Nat} {c:Int×Int×Int} (h:S[b]? = some (bxC c)):ld1 S (.bp b 0 0 1 1) = some (.int .i64 c.1)∧ld1 S (.bp b 0 1 1 1) = some (.int .i64 c.2.1)∧ldA S (.bp b 0 0 3 1) 3 = some (.agg (cAV c)):=by
 simp [ld1,ldA,BY,h,bxC,cAV]
def Iu (D:DataW Value) (b:Int→Option (Int×Int×Int)):Prop:=Maps.IsMap D∧∀ k,Maps.has D (.int .i64 k) = (b k).isSome∧D.atKey (.int .i64 k) (.held (vC (0,0,0))) = .held (vC ((b k).getD (0,0,0)))
def XR (b:Int→Option (Int×Int×Int)) (c:Int×Int×Int):Int→Option (Int×Int×Int):=fun k=>if k = c.1 then some c else b k
theorem Iu.nil:Iu (.map []) fun _=>none:=⟨Maps.isMap_empty,fun k=>⟨rfl,rfl⟩⟩
theorem Iu.put {D:DataW Value} {b:Int→Option (Int×Int×Int)} (h:Iu D b) (c:Int×Int×Int):Iu (D.put (.int .i64 c.1) (.held (vC c))) (XR b c):=by
 refine ⟨h.1.put _ _,fun k=>?_⟩
 unfold XR
 by_cases e:k = c.1
 ·subst e
  rw [if_pos rfl]
  have hk:WideAt.IsKeyLit (.int .i64 c.1):=trivial
  exact ⟨Maps.has_put_same h.1 hk _,Maps.atKey_put_same h.1 hk _ _⟩
 ·rw [if_neg e]
  have hne:(Lit.int .i64 k)≠.int .i64 c.1:=fun q=>e (by injection q)
  rw [Maps.has_put_other hne,Maps.atKey_put_other hne]
  exact h.2 k
def Om (b:Int→Option (Int×Int×Int)) (c:Int×Int×Int):Bool:=match b c.1 with
 | none=>true
 | some o=>decide (c.2.1 > o.2.1)
def D3 (st:(Int→Option (Int×Int×Int))×Int) (c:Int×Int×Int):(Int→Option (Int×Int×Int))×Int:=(bif Om st.1 c then XR st.1 c else st.1,if c.1 > st.2 then c.1 else st.2)
end Go.Rf
namespace Go.Rf
open Go
def HC (b:Int→Option (Int×Int×Int)) (i:Nat):List Int:=(List.range i).map fun (q:Nat)=>((b ((q:Int) + 1)).getD (0,0,0)).2.2
def He (css:List (List (Int×Int×Int))):(Int→Option (Int×Int×Int))×Int:=css.flatten.foldl D3 (fun _=>none,0)
def Gp (css:List (List (Int×Int×Int))):List Int:=HC (He css).1 (He css).2.toNat
theorem RA:∀ (cs:List (Int×Int×Int)) (st:(Int→Option (Int×Int×Int))×Int),(∀ c∈cs,0≤c.1∧c.1≤1000)→0≤st.2∧st.2≤1000→0≤(cs.foldl D3 st).2∧(cs.foldl D3 st).2≤1000
 | [],st,_,h=>h
 | c::cs,st,hc,h=>by
  rw [List.foldl_cons]
  refine RA cs _ (fun x hx=>hc x (by simp [hx])) ?_
  have:=hc c (by simp)
  unfold D3
  dsimp only
  split <;> omega
def Pe (S:St) (v:AV) (vals:List Int):Prop:=(v = .rsl false true []∧vals = [])∨∃ b,v = .bsl b 0 vals.length vals.length false∧S[b]? = some ⟨1,vals.map fun x=>[AV.int .i64 x],true⟩
theorem Yk {S:St} {v:AV} {vals:List Int} (h:Pe S v vals) (hl:vals.length≤100000) (x:Int):∃ v' S',BJ 1 8 v (.rsl false true [[.int .i64 x]]) S = some (v',S')∧Pe S' v' (vals++[x]):=by
 rcases h with ⟨rfl,rfl⟩ | ⟨b,rfl,hb⟩
 ·exact ⟨.bsl S.length 0 1 1 false,S++[⟨1,[[.int .i64 x]],true⟩],rfl,.inr ⟨S.length,rfl,by simp⟩⟩
 ·have hlt:=(List.getElem?_eq_some_iff.1 hb).1
  refine ⟨.bsl b 0 (vals.length + 1) (vals.length + 1) false,S.set b ⟨1,(vals++[x]).map fun x=>[AV.int .i64 x],true⟩,?_,.inr ⟨b,by simp,by simp [hlt]⟩⟩
  unfold BJ BU FC
  have h9:(vals.length + 1) * (8 + 1)≤17592186044416:=by omega
  simp [hb,h9,AC]
theorem c8 {S:St} {v:AV} {vals:List Int} (h:Pe S v vals):fzr S v = .rsl false false (vals.map fun x=>[AV.int .i64 x]):=by
 rcases h with ⟨rfl,rfl⟩ | ⟨b,rfl,hb⟩
 ·rfl
 ·have e:frz false S 8 (.bsl b 0 vals.length vals.length false) = .rsl false false (vals.map fun x=>[AV.int .i64 x]):=by
   simp only [frz,hb,List.length_map,if_true,List.drop_zero]
   rw [show vals.length = (vals.map fun x=>[AV.int .i64 x]).length from by simp,List.take_length]
  unfold fzr
  rw [e]
  simp [Bi,nz,nrm,ltD]
def Gj {α β:Type} (f:α→Option β):List α→Option (List β)
 | []=>some []
 | x::r=>match f x,Gj f r with
  | some y,some ys=>some (y::ys)
  | _,_=>none
theorem MB {α β:Type} {f:α→Option β}:∀ {xs:List α} {ys:List β},Gj f xs = some ys→ys.length = xs.length∧∀ (i:Nat) (h:i < xs.length) (h':i < ys.length),f xs[i] = some ys[i]
 | [],ys,h=>by injection h with h; subst h; exact ⟨rfl,fun i h=>by simp at h⟩
 | x::r,ys,h=>by
  simp only [Gj] at h
  split at h
  ·rename_i y zs h1 h2
   injection h with h; subst h
   obtain ⟨k1,k2⟩:=MB h2
   refine ⟨by simp [k1],fun i hi hi'=>?_⟩
   cases i with
   | zero=>exact h1
   | succ i=>exact k2 i (by simpa using hi) (by simpa using hi')
  ·cases h
theorem KW {α β γ:Type} {f:α→Option β} {g:γ→α} {k:γ→β} (h:∀ x,f (g x) = some (k x)):∀ xs:List γ,Gj f (xs.map g) = some (xs.map k)
 | []=>rfl
 | x::xs=>by simp only [List.map_cons,Gj,h x,KW h xs]
def WQ:List AV→Option Int
 | [.int .i64 n]=>some n
 | _=>none
def WR:List AV→Option (Int×Int×Int)
 | [.int .i64 a,.int .i64 b,.int .i64 c]=>some (a,b,c)
 | _=>none
theorem YP {x:List AV} {n:Int} (h:WQ x = some n):x = [.int .i64 n]:=by
 unfold WQ at h
 split at h
 ·injection h with h; subst h; rfl
 ·cases h
theorem YQ {x:List AV} {c:Int×Int×Int} (h:WR x = some c):x = cAV c:=by
 unfold WR at h
 split at h
 ·injection h with h; subst h; rfl
 ·cases h
theorem N4 {α:Type} {f:List AV→Option α} {g:α→List AV} (hf:∀ x y,f x = some y→x = g y):∀ {xs:List (List AV)} {ys:List α},Gj f xs = some ys→xs = ys.map g
 | [],ys,h=>by injection h with h; subst h; rfl
 | x::r,ys,h=>by
  simp only [Gj] at h
  split at h
  ·rename_i y zs h1 h2
   injection h with h; subst h
   rw [List.map_cons,← hf x y h1,← N4 hf h2]
  ·cases h
def Ip (rows:List (List AV)) (r:Int):Option (List (Int×Int×Int)):=if 0≤r then (match rows[r.toNat]? with
  | some e=>if e.length = 7 then (match (e[5]?:Option AV) with
   | some (AV.rsl _ _ cs)=>Gj WR cs
   | _=>none) else none
  | none=>none) else none
def Su (rows:List (List AV)) (r:Int) (cs:List (Int×Int×Int)):Prop:=0≤r∧∃ e l fl,rows[r.toNat]? = some e∧e.length = 7∧e[5]? = some (.rsl l fl (cs.map cAV))
theorem Qw {rows:List (List AV)} {r:Int} {cs:List (Int×Int×Int)} (h:Ip rows r = some cs):Su rows r cs:=by
 unfold Ip at h
 split at h <;> try (cases h; done)
 rename_i h0
 split at h <;> try (cases h; done)
 rename_i e he
 split at h <;> try (cases h; done)
 rename_i hl
 split at h <;> try (cases h; done)
 rename_i l fl cs' h5
 rw [N4 (g:=cAV) (fun x y q=>YQ q) h] at h5
 exact ⟨h0,e,l,fl,he,hl,h5⟩
def VC (css:List (List (Int×Int×Int))):Prop:=∀ cs∈css,(∀ c∈cs,0≤c.1∧c.1≤1000)∧cs.length≤1000
open Classical in
noncomputable def LX (rs:List Int) (css:Option (List (List (Int×Int×Int)))):Option (List Int):=match css with
 | none=>none
 | some css=>if rs.length≤1000∧VC css then some (Gp css) else none
noncomputable def LY (rows rrs:List (List AV)):Option (List Int):=match Gj WQ rrs with
 | none=>none
 | some rs=>LX rs (Gj (Ip rows) rs)
theorem V9 {rows rrs:List (List AV)} {vals:List Int} (h:LY rows rrs = some vals):∃ (rs:List Int) (css:List (List (Int×Int×Int))),rrs = rs.map (fun r=>[AV.int .i64 r])∧∃ hl:css.length = rs.length,(∀ (i:Nat) (h:i < rs.length),Su rows rs[i] (css[i]'(by omega)))∧VC css∧rs.length≤1000∧vals = Gp css:=by
 unfold LY at h
 split at h <;> try (cases h; done)
 rename_i rs hrs
 unfold LX at h
 split at h <;> try (cases h; done)
 rename_i css hcss
 split at h <;> try (cases h; done)
 rename_i hg
 injection h with h
 obtain ⟨k1,k2⟩:=MB hcss
 exact ⟨rs,css,N4 (g:=fun r=>[AV.int .i64 r]) (fun x y q=>YP q) hrs,k1,fun i hi=>Qw (k2 i hi (by omega)),hg.2,hg.1,h.symm⟩
noncomputable def GQ (args:List AV) (S:St):Option (AV×St):=match args with
 | [.rsl _ _ rows,.rsl _ _ rrs]=>(LY rows rrs).map fun vals=>(.rsl false false (vals.map fun n=>[AV.int .i64 n]),S)
 | _=>none
end Go.Rf
