/- Arguments that are AC data; the row of a law that answers true. -/
import Derived.Test.YthbiabieiopobaaGreatDoorRf18
import Derived.ProofKit
import Derived.Deep.Slices
import Derived.WideKeyArgs
set_option linter.unusedVariables false
set_option linter.unusedSimpArgs false
namespace Go.Rf
open Go Go.ChangeShapes Go.WideShapes Go.RowKit Go.Deep
def WTs (wt:TypeId→List AV→Prop):List Field→List AV→Prop
 | [],avs=>avs = []
 | f::fs,avs=>∃ a b,avs = a++b∧wt f.type a∧WTs wt fs b
def WT (P:Program):Nat→TypeId→List AV→Prop
 | 0,_,_=>False
 | n + 1,t,avs=>match P.underlying t with
  | some (.int k)=>∃ z,avs = [.int k z]∧(Lit.int k z).wf = true
  | some .bool=>∃ b,avs = [.bool b]
  | some .string=>∃ s,avs = [.str s]∧s.size≤maxLen
  | some (.slice e)=>∃ es,avs = [.rsl false false es]∧es.length≤maxLen∧∀ x∈es,WT P n e x
  | some (.struct fs)=>WTs (WT P n) fs.toList avs
  | _=>False
def IV (P:Program) (e:Nat):List Field→Nat→Bool
 | [],k=>k == e
 | f::fs,k=>f.offset == k && IV P e fs (k + P.cellsOf f.type)
def okT (P:Program):Nat→TypeId→Bool
 | 0,_=>false
 | n + 1,t=>match P.underlying t with
  | some (.int _) | some .bool | some .string=>true
  | some (.slice e)=>decide (0 < P.cellsOf e) && okT P n e
  | some (.struct fs)=>IV P (P.cellsOf t) fs.toList 0 && fs.toList.all fun f=>okT P n f.type
  | _=>false
theorem J9 {P:Program} {e:Nat}:∀ (fs:List Field) (k:Nat),IV P e fs k = true→k≤e
 | [],k,h=>by simp [IV] at h; omega
 | f::fs,k,h=>by
  simp only [IV,Bool.and_eq_true] at h
  have:=J9 fs _ h.2
  omega
abbrev V0 (w:World):AV→Value→Prop:=VR (fun _=>False) (fun _=>none) (fun c=>c < w.heap.size) [] w
def X9 (w:World) (avs:List AV) (cs:List Value):Prop:=
 avs.length = cs.length∧(∀ a∈avs,CO false a = true)∧∀ (i:Nat) (a:AV) (v:Value),avs[i]? = some a→cs[i]? = some v→V0 w a v
theorem RE {α:Type} {p:Nat→α→Prop}:∀ n,(∀ i,i < n→∃ x,p i x)→∃ l:List α,l.length = n∧∀ (i:Nat) (x:α),l[i]? = some x→p i x
 | 0,_=>⟨[],rfl,fun i x h=>by simp at h⟩
 | n + 1,h=>by
  obtain ⟨l,hl,hp⟩:=RE n fun i hi=>h i (by omega)
  obtain ⟨x,hx⟩:=h n (by omega)
  refine ⟨l++[x],by simp [hl],fun i y hi=>?_⟩
  rcases Nat.lt_or_ge i l.length with q | q
  ·rw [List.getElem?_append_left q] at hi; exact hp i y hi
  ·rw [List.getElem?_append_right q] at hi
   have:i - l.length = 0:=by
    have:=(List.getElem?_eq_some_iff.1 hi).1; simp at this; omega
   rw [this] at hi
   simp at hi; subst hi
   have:i = n:=by omega
   subst this; exact hx
theorem N5 {H:Type} {enc:TypeId×Value→H} {P:Program} {w:World} {sp:Nat→Bool} {hd:Bool}:∀ (n:Nat) (t:TypeId) (fuel:Nat) (cs:List Value) (x:DataW H×List MemPlace),okT P n t = true →
  DataW.trod enc P w 0 sp hd fuel t cs = some x→∃ avs,WT P n t avs∧X9 w avs cs
 | 0,t,fuel,cs,x,h,_=>by simp [okT] at h
 | n + 1,t,fuel,cs,x,h,ht=>by
  unfold okT at h
  cases hu:P.underlying t with
  | none=>simp [hu] at h
  | some d=>
   cases d <;> simp only [hu,Bool.false_eq_true] at h
   case bool=>
    obtain ⟨b,rfl,_⟩:=DataW.trod_bool hu ht
    refine ⟨[.bool b],by simp only [WT,hu]; exact ⟨b,rfl⟩,rfl,by simp [CO,Bv,Br,lt],fun i a v h1 h2=>?_⟩
    match i with
    | 0=>simp at h1 h2; subst h1; subst h2; exact .bool b
    | i + 1=>simp at h1
   case int k=>
    obtain ⟨z,rfl,_,hw⟩:=DataW.trod_int hu ht
    refine ⟨[.int k z],by simp only [WT,hu]; exact ⟨z,rfl,hw⟩,rfl,by simp [CO,Bv,Br,lt],fun i a v h1 h2=>?_⟩
    match i with
    | 0=>simp at h1 h2; subst h1; subst h2; exact .int k z
    | i + 1=>simp at h1
   case string=>
    obtain ⟨s,rfl,_,hw⟩:=DataW.trod_string hu ht
    refine ⟨[.str s],by simp only [WT,hu]; exact ⟨s,rfl,hw⟩,rfl,by simp [CO,Bv,Br,lt],fun i a v h1 h2=>?_⟩
    match i with
    | 0=>simp at h1 h2; subst h1; subst h2; exact .str s
    | i + 1=>simp at h1
   case slice e=>
    simp only [Bool.and_eq_true,decide_eq_true_eq] at h
    rcases open_slice hu ht with ⟨rfl,_⟩ | ⟨a,len,cap,m,n',D,Pl,rfl,_,hlc,hcap,hm,_,hel⟩
    ·refine ⟨[.rsl false false []],by simp only [WT,hu]; exact ⟨[],rfl,by simp,by simp⟩,rfl,by simp [CO,Bv,Br,lt],fun i a v h1 h2=>?_⟩
     match i with
     | 0=>simp at h1 h2; subst h1; subst h2; exact .rsl0 false false none 0 (by simp)
     | i + 1=>simp at h1
    ·have hlm:len≤m:=by rw [hm]; split <;> omega
     have key:∀ i,i < len→∃ es:List AV,WT P n e es∧∃ cs',w.cells? 0 (a.add (i * P.cellsOf e)) (P.cellsOf e) = some cs'∧X9 w es cs':=by
      intro i hi
      obtain ⟨cs',h1,h2⟩:=hel i (by omega)
      obtain ⟨es,h3,h4⟩:=N5 n e n' cs' _ h.2 h2
      exact ⟨es,h3,cs',h1,h4⟩
     obtain ⟨ess,hlen,hess⟩:=RE len key
     refine ⟨[.rsl false false ess],by
      simp only [WT,hu]
      refine ⟨ess,rfl,by omega,fun x hx=>?_⟩
      obtain ⟨i,hi⟩:=List.getElem?_of_mem hx
      exact (hess i x hi).1,rfl,by simp [CO,Bv,Br,lt],fun i av v h1 h2=>?_⟩
     match i with
     | i + 1=>simp at h1
     | 0=>
      simp at h1 h2; subst h1; subst h2
      rcases Nat.eq_zero_or_pos len with hz | hz
      ·subst hz
       have:ess = []:=List.eq_nil_of_length_eq_zero hlen
       subst this
       exact .rsl0 false false (some a) cap (by simp)
      ·-- the address is a cell's
       have hcell:∀ i e',ess[i]? = some e'→∀ j,j < P.cellsOf e→∃ v,w.cell? (a.add (i * P.cellsOf e + j)) = some v∧∀ x,e'[j]? = some x→V0 w x v:=by
        intro i e' hi j hj
        obtain ⟨_,cs',h1,h2⟩:=hess i e' hi
        obtain ⟨_,hl,hc⟩:=World.cells?_some h1
        have:=hc j hj
        rw [Go.Deep.add_add] at this
        refine ⟨cs'[j]'(by omega),by rw [this]; exact List.getElem?_eq_getElem (by omega),fun x hx=>h2.2.2 j x _ hx (List.getElem?_eq_getElem (by omega))⟩
       have hspot:a.spot = none:=by
        obtain ⟨v,hv,_⟩:=hcell 0 ess[0] (List.getElem?_eq_getElem (by omega)) 0 h.1
        have h0:a.add (0 * P.cellsOf e + 0) = a:=by simp [Addr.add]
        rw [h0] at hv
        exact World.cell?_spot hv
       have hblk:a.block < w.heap.size:=by
        obtain ⟨v,hv,_⟩:=hcell 0 ess[0] (List.getElem?_eq_getElem (by omega)) 0 h.1
        have h0:a.add (0 * P.cellsOf e + 0) = a:=by simp [Addr.add]
        rw [h0] at hv
        unfold World.cell? at hv
        rcases Nat.lt_or_ge a.block w.heap.size with q | q
        ·exact q
        ·rw [Array.getElem?_eq_none q] at hv; cases hv
       have hadd:∀ k,a.add k = ⟨a.block,a.off + k,none⟩:=by
        intro k
        unfold Addr.add
        split
        ·rename_i hk; subst hk; cases a; simp_all
        ·rfl
       have ha:a = ⟨a.block,a.off,none⟩:=by cases a; simp_all
       rw [ha]
       rw [← hlen]
       refine .rsl false false ess a.block a.off (P.cellsOf e) cap (fun i j=>(w.cell? ⟨a.block,a.off + (i * P.cellsOf e + j),none⟩).getD undef) hblk (fun _ h=>h) (by simp) (by omega) (fun i e' hi=>?_) (fun i e' hi=>?_) (fun i j hi hj=>?_) (fun i e' j x hi hj=>?_)
       ·obtain ⟨_,cs',h1,h2⟩:=hess i e' hi
        obtain ⟨_,hl,_⟩:=World.cells?_some h1
        rw [h2.1,hl]
       ·obtain ⟨_,cs',h1,h2⟩:=hess i e' hi
        exact h2.2.1
       ·obtain ⟨v,hv,_⟩:=hcell i ess[i] (List.getElem?_eq_getElem hi) j hj
        rw [hadd] at hv
        rw [hv]; rfl
       ·have hjl:j < P.cellsOf e:=by
         obtain ⟨_,cs',h1,h2⟩:=hess i e' hi
         obtain ⟨_,hl,_⟩:=World.cells?_some h1
         have:=(List.getElem?_eq_some_iff.1 hj).1
         rw [← hl,← h2.1]; exact this
        obtain ⟨v,hv,hx⟩:=hcell i e' hi j hjl
        rw [hadd] at hv
        rw [hv]
        exact hx x hj
   case struct fs=>
    simp only [Bool.and_eq_true] at h
    obtain ⟨xs,n',_,_,hcl,hxl,hf⟩:=DataW.trod_struct hu ht
    suffices hs:∀ (l:List Field) (p k:Nat),fs.toList.drop p = l→IV P (P.cellsOf t) l k = true→∃ avs,WTs (WT P n) l avs∧X9 w avs (cs.drop k) by
     obtain ⟨avs,h1,h2⟩:=hs fs.toList 0 0 (by simp) h.1
     exact ⟨avs,by simp only [WT,hu]; exact h1,by simpa using h2⟩
    intro l
    induction l with
    | nil=>
     intro p k hp hk
     simp only [IV,beq_iff_eq] at hk
     refine ⟨[],rfl,by simp; omega,by simp,fun i a v h1 _=>by simp at h1⟩
    | cons f l ih=>
     intro p k hp hk
     have hle:=J9 _ _ hk
     simp only [IV,Bool.and_eq_true,beq_iff_eq] at hk
     have hle2:=J9 _ _ hk.2
     have hpf:fs.toList[p]? = some f:=by
      have:(fs.toList.drop p)[0]? = some f:=by rw [hp]; rfl
      simpa using this
     have hp1:fs.toList.drop (p + 1) = l:=by
      rw [← List.drop_drop,hp]; rfl
     obtain ⟨bs,hb1,hb2⟩:=ih (p + 1) _ hp1 hk.2
     have hft:=hf p f (by simpa using hpf)
     have hplt:p < xs.length:=by
      have:=(List.getElem?_eq_some_iff.1 hpf).1; simp at this; omega
     rw [List.getElem?_eq_getElem hplt] at hft
     have hokf:okT P n f.type = true:=(List.all_eq_true.1 h.2) f (List.mem_of_getElem? hpf)
     obtain ⟨as_,ha1,ha2⟩:=N5 n f.type n' _ _ hokf hft
     rw [hk.1] at ha2
     have hal:as_.length = P.cellsOf f.type:=by
      have:=ha2.1; simp at this; omega
     refine ⟨as_++bs,⟨as_,bs,rfl,ha1,hb1⟩,?_,fun a ha=>?_,fun i a v h1 h2=>?_⟩
     ·have:=hb2.1; simp at this ⊢; omega
     ·rcases List.mem_append.1 ha with q | q
      ·exact ha2.2.1 a q
      ·exact hb2.2.1 a q
     ·rcases Nat.lt_or_ge i as_.length with q | q
      ·rw [List.getElem?_append_left q] at h1
       refine ha2.2.2 i a v h1 ?_
       rw [List.getElem?_take,if_pos (by omega)]
       exact h2
      ·rw [List.getElem?_append_right q] at h1
       refine hb2.2.2 _ a v h1 ?_
       rw [List.getElem?_drop] at h2 ⊢
       rw [← h2]; congr 1; omega
def WP (P:Program) (n:Nat) (t:TypeId) (a:AV):Prop:=
 match P.underlying t with
 | some (.struct _)=>∃ cs,a = .agg cs∧WT P n t cs
 | _=>WT P n t [a]
def WPs (P:Program) (n:Nat):List TypeId→List AV→Prop
 | [],as_=>as_ = []
 | t::ts,as_=>∃ a r,as_ = a::r∧WP P n t a∧WPs P n ts r
theorem VA {H:Type} {enc:TypeId×Value→H} {P:Program} {w:World} {sp:Nat→Bool} {hd:Bool} {n:Nat} {t:TypeId} {v:Value} {d:DataW H} {ps:List MemPlace} {r:Reach} {b:Nat} (hok:okT P n t = true)
  (hval:Value.okWide P w r b t v) (h:DataW.Trod enc P w 0 sp hd t v d ps):∃ a,WP P n t a∧V0 w a v:=by
 obtain ⟨fuel,hf⟩:=h
 obtain ⟨avs,h1,h2⟩:=N5 n t fuel _ _ hok hf
 by_cases hs:∃ fs,P.underlying t = some (.struct fs)
 ·obtain ⟨fs,hs⟩:=hs
  obtain ⟨cs,rfl,_⟩:=okWide_struct hs hval
  refine ⟨.agg avs,by simp only [WP,hs]; exact ⟨avs,rfl,h1⟩,.agg _ _ (by simpa [Value.cells] using h2.1) (fun a ha=>H3 (h2.2.1 a ha)) (fun i a u hi hu=>?_)⟩
  exact h2.2.2 i a u hi (by simpa [Value.cells] using hu)
 ·-- one cell
  have key:∀ a,avs = [a]→v.cells.toList = [v]→∃ a,WP P n t a∧V0 w a v:=by
   intro a ha hv
   refine ⟨a,?_,h2.2.2 0 a v (by rw [ha]; rfl) (by rw [hv]; rfl)⟩
   unfold WP
   split
   ·rename_i fs hfs; exact absurd ⟨fs,hfs⟩ hs
   ·rw [← ha]; exact h1
  cases n with
  | zero=>simp [okT] at hok
  | succ n=>
   unfold okT at hok
   cases hu:P.underlying t with
   | none=>simp [hu] at hok
   | some dsc=>
    cases dsc <;> simp only [hu,Bool.false_eq_true] at hok
    case bool=>
     simp only [WT,hu] at h1
     obtain ⟨b,rfl⟩:=h1
     obtain ⟨q,rfl⟩:=okWide_bool hu hval
     exact key _ rfl rfl
    case int k=>
     simp only [WT,hu] at h1
     obtain ⟨z,rfl,_⟩:=h1
     obtain ⟨q,rfl⟩:=okWide_int hu hval
     exact key _ rfl rfl
    case string=>
     simp only [WT,hu] at h1
     obtain ⟨z,rfl,_⟩:=h1
     obtain ⟨q,rfl⟩:=okWide_string hu hval
     exact key _ rfl rfl
    case slice e=>
     simp only [WT,hu] at h1
     obtain ⟨z,rfl,_⟩:=h1
     obtain ⟨q1,q2,q3,rfl⟩:=okWide_slice hu hval
     exact key _ rfl rfl
    case struct fs=>exact absurd ⟨fs,hu⟩ hs
theorem LZ {H:Type} {enc:TypeId×Value→H} {P:Program} {w:World} {sp:Nat→Bool} {hd:Bool} {n:Nat} {r:Reach} {b:Nat}:∀ (ts:List TypeId) (vs:List Value) (ds:List (DataW H)) (ps:List MemPlace),(∀ t∈ts,okT P n t = true) →
  (∀ (j:Nat) (t:TypeId) (v:Value),ts[j]? = some t→vs[j]? = some v→Value.okWide P w r b t v)→DataW.TrodAll enc P w 0 sp hd ts vs ds ps →
  ∃ as_,WPs P n ts as_∧as_.length = vs.length∧∀ (i:Nat) (a:AV) (v:Value),as_[i]? = some a→vs[i]? = some v→V0 w a v
 | [],vs,ds,ps,_,_,h=>by
  obtain ⟨rfl,_,_⟩:=trodAll_nil h
  exact ⟨[],rfl,rfl,fun i a v h _=>by simp at h⟩
 | t::ts,vs,ds,ps,hok,hval,h=>by
  obtain ⟨v,vs',d,ds',p,q,rfl,rfl,rfl,h1,h2⟩:=trodAll_cons h
  obtain ⟨a,ha1,ha2⟩:=VA (hok t (by simp)) (hval 0 t v rfl rfl) h1
  obtain ⟨r,hr1,hr2,hr3⟩:=LZ ts vs' ds' q (fun t ht=>hok t (by simp [ht])) (fun j t v hj hv=>hval (j + 1) t v hj hv) h2
  refine ⟨a::r,⟨a,r,rfl,ha1,hr1⟩,by simp [hr2],fun i x u hi hu=>?_⟩
  cases i with
  | zero=>simp at hi hu; subst hi; subst hu; exact ha2
  | succ i=>exact hr3 i x u (by simpa using hi) (by simpa using hu)
theorem Jd {H:Type} {enc:TypeId×Value→H} {P:Program} (hl:laidOutB P = true) {W W':World} (hb:Below W.heap.size W W') {sp':Nat→Bool}:∀ (ts:List TypeId) (vs:List Value) (ds:List (DataW H)) (ps:List MemPlace),
  (∀ t∈ts,P.readableRec t = true∧t < P.types.size)→DataW.TrodAll enc P W 0 (fun _=>true) true ts vs ds ps→(∀ p∈ps,p.block < W.heap.size)→(∀ p∈ps,sp' p.block = true)→DataW.TrodAll enc P W' 0 sp' true ts vs ds ps
 | [],vs,ds,ps,_,h,_,_=>by
  obtain ⟨rfl,rfl,rfl⟩:=trodAll_nil h
  exact trodAll_mk0
 | t::ts,vs,ds,ps,hok,h,hlt,hsp=>by
  obtain ⟨v,vs',d,ds',p,q,rfl,rfl,rfl,h1,h2⟩:=trodAll_cons h
  obtain ⟨o1,o2⟩:=hok t (by simp)
  exact ⟨p,q,WideElems.Trod_stays hl o1 o2 h1 (fun x hx=>hb.same (hlt x (by simp [hx]))) (fun x hx=>hsp x (by simp [hx])),
   Jd hl hb ts vs' ds' q (fun t ht=>hok t (by simp [ht])) h2 (fun x hx=>hlt x (by simp [hx])) (fun x hx=>hsp x (by simp [hx])),rfl⟩
abbrev GW (W:World):World→Prop:=fun w=>Below W.heap.size W w
theorem Y9 (W:World):Pg W.heap.size (GW W):=
 ⟨fun w w' hh ho ht hu _ hs h=>⟨ho.trans h.os,ht.trans h.tape,hu.trans h.output,Nat.le_trans h.size hs,fun k hk=>(hh k hk).trans (h.block k hk)⟩⟩
theorem N8 {C:Cfg} (hm:C.P.follows .mixedOrders = true) (hN:Di C.P) {W:World} (hE:Sv C W.heap.size (GW W)) {d:Nat} {f:FuncId} {args:Array Value} {as_:List AV} (hl:as_.length = args.toList.length)
  (ha:∀ (i:Nat) (a:AV) (v:Value),as_[i]? = some a→args.toList[i]? = some v→V0 W a v) {v:AV} {S1:St} (h:Ug C d f as_ [] = some (v,S1)) :
  Calls C.P f args W (fun e W'=>∃ cv m A,e = .returned cv∧Below W.heap.size W W'∧Rel W.heap.size (fun _=>False) m A S1 W'∧VR (fun _=>False) m A S1 W' v cv):=by
 have hr:Rel W.heap.size (fun _=>False) (fun _=>none) (fun c=>c < W.heap.size) [] W:=
  ⟨fun b blk base h=>(by cases h),fun b b' blk o o' h=>(by cases h),fun b blk o h=>(by cases h),fun c h=>h,fun c h=>h.elim,Nat.le_refl _⟩
 refine (RZ (Y9 W) hm hN hE d f as_ [] v S1 h (fun _=>False) _ _ W args hr ⟨by simpa using hl,fun i a v hi hv=>ha i a v hi (by simpa using hv)⟩ (Below.refl _ _)).mono ?_
 rintro e w' ⟨cv,m',A',rfl,k1,k2,k3⟩
 exact ⟨cv,m',A',rfl,⟨k2.kp.os,k2.kp.tape,k2.kp.output,k2.kp.size,fun c hc=>k2.kp.block c hc (fun ⟨b,o,hb⟩=>by cases hb)⟩,k1,k3⟩
end Go.Rf
