/- Building, making, appending, clearing. -/
import Derived.Test.YthbiabieiopobaaGreatDoorRf8
import Derived.Laws.MakeOwn
set_option linter.unusedVariables false
set_option linter.unusedSimpArgs false
namespace Go.Rf
open Go
variable {g0:Nat} {X:Nat→Prop} {m:Bd} {A:Nat→Prop} {S:St} {w:World} {P:Program}
theorem PM (fs:Array Field) (h:∀ f∈fs,∃ i,P.info? f.type = some i) (w:World) :
    (fs.mapM fun f=>(do pure (f.offset,← sizeOf f.type):Sem (Nat×Nat))).run P w = .ok (fs.map fun f=>(f.offset,P.cellsOf f.type)) w:=by
  rw [Array.mapM_eq_foldlM,← Array.foldlM_toList]
  suffices ∀ (l:List Field) (acc:Array (Nat×Nat)),(∀ f∈l,∃ i,P.info? f.type = some i) →
      (l.foldlM (fun bs a=>(do let b ← (do pure (a.offset,← sizeOf a.type):Sem (Nat×Nat)); pure (bs.push b):Sem (Array (Nat×Nat)))) acc).run P w = .ok (acc++(l.map fun f=>(f.offset,P.cellsOf f.type)).toArray) w by
    have:=this fs.toList #[] (fun f hf=>h f (by simpa using hf))
    simp only [bind_pure_comp] at this ⊢
    rw [this]
    congr 1
    apply Array.ext'; simp
  intro l
  induction l with
  | nil=>intro acc _; simp
  | cons f l ih=>
    intro acc hl
    obtain ⟨i,hi⟩:=hl f (by simp)
    have hc:P.cellsOf f.type = i.size:=by simp [Program.cellsOf,hi]
    simp only [List.foldlM_cons,Sem.run_bind,DW hi,Result.andThen_ok,Sem.run_pure]
    rw [ih _ (fun f hf=>hl f (by simp [hf]))]
    congr 1
    apply Array.ext'
    simp [hc]
theorem Xh (hr:Rel g0 X m A S w) {t:TypeId} {parts:List (Nat×AV)} {cparts:List (Nat×Value)} {v:AV} (hl:parts.length = cparts.length)
    (hp:∀ (j i:Nat) (x:AV) (i':Nat) (y:Value),parts[j]? = some (i,x)→cparts[j]? = some (i',y)→i = i'∧VR X m A S w x y)
    (h:Aw P t parts = some v):Ok P g0 X m A S w (Instr.build t cparts.toArray) v S:=by
  unfold Aw at h
  split at h <;> try (cases h; done)
  rename_i fs z hu hz
  split at h <;> try (cases h; done)
  rename_i hc
  rw [Option.map_eq_some_iff] at h
  obtain ⟨r,h1,rfl⟩:=h
  unfold EP at hz
  split at hz <;> try (cases hz; done)
  rename_i i hi
  rw [Option.map_eq_some_iff] at hz
  obtain ⟨zv,hzv,rfl⟩:=hz
  obtain ⟨c1,c2,c3⟩:=(VR.ofV (X:=X) (m:=m) (A:=A) (S:=S) (w:=w) zv).cells hc.1
  obtain ⟨cr,e1,e2,e3⟩:=RN (place:=fun i=>((fs.map fun f=>(f.offset,P.cellsOf f.type))[i]?)) parts cparts _ zv.cells r
    ⟨c1,fun q a v hq hv=>by obtain ⟨u,hu,hvr⟩:=c3 q a hq; rw [hu] at hv; injection hv with hv; subst hv; exact hvr⟩ c2 hl hp (by simpa using h1)
  have hpl:=PM (P:=P) fs (fun f hf=>by
    have:=hc.2
    rw [Array.all_eq_true'] at this
    have:=this f hf
    exact Option.isSome_iff_exists.1 this) w
  simp only [bind_pure_comp] at hpl
  simp only [Array.getElem?_map] at e1
  refine Ok.stay hr (cv:=.agg cr) ?_ (.agg _ _ e2.1 e3 e2.2)
  simp [Instr.build,zeroValue,typeInfo,hi,hzv,run_underlying hu,hpl,e1]
theorem O7 (size:Nat):∀ (cparts:List (Nat×Value)) (k:Nat) (cells:Array Value),(∀ (j i:Nat) (v:Value),cparts[j]? = some (i,v)→i = k + j∧v.cells.size = size) →
    (k + cparts.length) * size≤cells.size→∃ cr,Instr.fill (fun i=>some (i * size,size)) cells cparts = some cr∧cr.size = cells.size ∧
      (∀ (j i:Nat) (v:Value),cparts[j]? = some (i,v)→∀ o,o < size→cr[(k + j) * size + o]? = v.cells[o]?)∧∀ q,q < k * size→cr[q]? = cells[q]?
  | [],k,cells,_,_=>⟨cells,rfl,rfl,fun j i v h=>by simp at h,fun _ _=>rfl⟩
  | (i, v) :: rest,k,cells,hp,hl=>by
    obtain ⟨rfl,hsz⟩:=hp 0 i v rfl
    simp only [List.length_cons,Nat.add_zero] at hl hp ⊢
    have hm1:(i + 1) * size≤(i + (rest.length + 1)) * size:=Nat.mul_le_mul_right _ (by omega)
    have hm2:(i + 1) * size = i * size + size:=by rw [Nat.add_mul,Nat.one_mul]
    obtain ⟨f1,f2⟩:=M8 v.cells.toList (i * size) cells
    obtain ⟨cr,e1,e2,e3,e4⟩:=O7 size rest (i + 1) (v.cells.toList.zipIdx.foldl (fun cs (c,j)=>cs.setIfInBounds (i * size + j) c) cells)
      (fun j i' v' h=>by have:=hp (j + 1) i' v' (by simpa using h); exact ⟨by omega,this.2⟩)
      (by rw [f1]; have:i + 1 + rest.length = i + (rest.length + 1):=by omega
          rw [this]; exact hl)
    refine ⟨cr,?_,by rw [e2,f1],fun j i' v' h o ho=>?_,fun q hq=>?_⟩
    · simp only [Instr.fill]
      rw [if_neg (by simp; omega),← e1]
      congr 2
      rw [← Array.foldl_toList,Array.toList_zipIdx]
    · cases j with
      | zero=>
        simp at h
        obtain ⟨rfl,rfl⟩:=h
        rw [Nat.add_zero,e4 _ (by omega),f2 _ (by simp; omega),if_pos (by simp; omega)]
        rw [show i * size + o - i * size = o by omega]
        simp
      | succ j=>
        have:=e3 j i' v' (by simpa using h) o ho
        rw [show i + (j + 1) = i + 1 + j by omega]; exact this
    · rw [e4 q (by omega),f2 q (by simp; omega),if_neg (by omega)]
theorem MI {sz:Nat}:∀ (parts:List (Nat×AV)) (k:Nat) (es:List (List AV)),Dh sz k parts = some es→es.length = parts.length ∧
    ∀ (j:Nat) (e:List AV),es[j]? = some e→∃ x,parts[j]? = some (k + j,x)∧AK x = e∧e.length = sz
  | [],k,es,h=>by simp [Dh] at h; subst h; exact ⟨rfl,fun j e h=>by simp at h⟩
  | (i, v)::r,k,es,h=>by
    simp only [Dh] at h
    split at h <;> try (cases h; done)
    rename_i hc
    rw [Option.map_eq_some_iff] at h
    obtain ⟨es',h1,rfl⟩:=h
    obtain ⟨g1,g2⟩:=MI r (k + 1) es' h1
    refine ⟨by simp [g1],fun j e hj=>?_⟩
    cases j with
    | zero=>simp at hj; subst hj; exact ⟨v,by simp [hc.1],rfl,hc.2⟩
    | succ j=>
      obtain ⟨x,q1,q2,q3⟩:=g2 j e (by simpa using hj)
      exact ⟨x,by simp only [List.getElem?_cons_succ]; rw [q1]; congr 2; omega,q2,q3⟩
theorem dD (hr:Rel g0 X m A S w) {sz:Nat} {es:List (List AV)} {arr:Array Value} (ty:TypeId) (hpos:0 < sz) (hsz:es.length * sz = arr.size) (hlen:∀ e∈es,e.length = sz) (hcell:∀ e∈es,∀ a∈e,Bv a = true)
    (hv:∀ (i:Nat) (e:List AV) (j:Nat) (a:AV),es[i]? = some e→e[j]? = some a→∃ v,arr[i * sz + j]? = some v∧VR X m A S w a v) :
    ∃ m' A',Rel g0 X m' A' (mkS sz es S).2 (w.alloc (.cells arr ty))∧Ext m A S w m' A' (mkS sz es S).2 (w.alloc (.cells arr ty)) ∧
      VR X m' A' (mkS sz es S).2 (w.alloc (.cells arr ty)) (mkS sz es S).1 (.slice (some ⟨w.heap.size,0,none⟩) es.length es.length):=by
  unfold mkS
  split
  · rename_i hrf
    obtain ⟨h1,h2⟩:=hr.newRo (.cells arr ty)
    refine ⟨m,_,h1,h2,?_⟩
    refine .rsl _ _ _ w.heap.size 0 sz es.length (fun i j=>(arr[i * sz + j]?).getD default) (.inr rfl) (fun _ hx=>absurd (hr.xlt _ hx) (Nat.lt_irrefl _)) (fun _=>rfl) (Nat.le_refl _)
      (fun i e h=>hlen e (List.mem_of_getElem? h)) (fun i e h a ha=>?_) (fun i j hi hj=>?_) (fun i e j a hi hj=>?_)
    · have c1:=hcell e (List.mem_of_getElem? h) a ha
      have c2:Br a = true:=List.all_eq_true.1 (List.all_eq_true.1 hrf e (List.mem_of_getElem? h)) a ha
      simp only [CO,c1,c2,Bool.true_and,Bool.or_eq_true,Bool.not_eq_true']
      cases hl:lt a with
      | false=>exact .inr rfl
      | true=>exact .inl (List.any_eq_true.2 ⟨e,List.mem_of_getElem? h,List.any_eq_true.2 ⟨a,ha,hl⟩⟩)
    · rw [Nat.zero_add,World.cell?_alloc_new]
      have:i * sz + j < arr.size:=by
        rw [← hsz]
        have:=Nat.mul_le_mul_right sz (show i + 1≤es.length by omega)
        rw [Nat.add_mul,Nat.one_mul] at this; omega
      simp [this]
    · obtain ⟨v,q1,q2⟩:=hv i e j a hi hj
      simp only [q1,Option.getD_some]
      exact q2.mono hr h2
  · obtain ⟨h1,h2⟩:=hr.newBox ⟨sz,es,es.all (·.all AC)⟩ arr ty hlen hcell hpos (fun h e he a ha=>List.all_eq_true.1 (List.all_eq_true.1 h e he) a ha) (by dsimp only; omega) hv
    refine ⟨_,A,h1,h2,.bsl _ _ _ _ _ _ _ ⟨sz,es,es.all (·.all AC)⟩ (by simp) (Nat.le_refl _) (fun _=>⟨w.heap.size,0,by simp [BB],by omega,fun _=>by simp,Nat.le_refl _,fun _=>rfl,(fun h=>by cases h),fun q hq=>?_⟩)⟩
    simp only [World.shape?,heap_alloc_new,Option.some.injEq] at hq
    subst hq
    simp; omega
theorem QA {P:Program} {t:TypeId} {len:Nat} {parts:List (Nat×AV)} {S S1:St} {l fl:Bool} {es:List (List AV)} (h:A3 P t len parts S = some (.rsl l fl es,S1)):S1 = S:=by
  unfold A3 at h
  split at h <;> try (cases h; done)
  split at h <;> try (cases h; done)
  split at h <;> try (cases h; done)
  rw [Option.map_eq_some_iff] at h
  obtain ⟨es',_,h⟩:=h
  unfold mkS at h
  split at h
  · injection h with _ h; exact h.symm
  · injection h with h _; cases h
theorem IX {P:Program} {t:TypeId} {len:Nat} {parts:List (Nat×AV)} {S S1:St} {v:AV} (h:AN (A3 P t len parts S) S = some (v,S1)):A3 P t len parts S = some (v,S1)∧S1 = S:=by
  unfold AN at h
  split at h <;> try (cases h; done)
  rename_i l fl es S2 h2
  injection h with h
  injection h with h3 h4
  subst h3; subst h4
  rw [h2,QA h2]
  exact ⟨rfl,rfl⟩
theorem LN {P:Program} {t:TypeId} {len:Nat} {parts:List (Nat×AV)} {S S1:St} {v:AV} {b:Bool} (h:(bif b then AN (A3 P t len parts S) S else A3 P t len parts S) = some (v,S1)):A3 P t len parts S = some (v,S1):=by
  cases b
  · exact h
  · exact (IX h).1
theorem Ub (hr : Rel g0 X m A S w) {t : TypeId} {len:Nat} {parts:List (Nat×AV)} {cparts:List (Nat×Value)} {v:AV} {S1:St} (hl:parts.length = cparts.length)
    (hp:∀ (j i:Nat) (x:AV) (i':Nat) (y:Value),parts[j]? = some (i,x)→cparts[j]? = some (i',y)→i = i'∧VR X m A S w x y)
    (h:A3 P t len parts S = some (v,S1)):Ok P g0 X m A S w (Instr.buildSlice t len cparts.toArray) v S1:=by
  unfold A3 at h
  split at h <;> try (cases h; done)
  rename_i e hu
  split at h <;> try (cases h; done)
  rename_i i hi
  split at h <;> try (cases h; done)
  rename_i hc
  obtain ⟨hpos,hlen,hb1,hb2,hz⟩:=hc
  rw [Option.map_eq_some_iff] at h
  obtain ⟨es,h1,h2⟩:=h
  obtain ⟨zv,hzv⟩:=Option.isSome_iff_exists.1 hz
  obtain ⟨g1,g2⟩:=MI parts 0 es h1
  have hcp:∀ (j i':Nat) (v:Value),cparts[j]? = some (i',v)→i' = 0 + j∧v.cells.size = i.size∧∃ x,es[j]? = some (AK x)∧(AK x).length = i.size∧VR X m A S w x v:=by
    intro j i' y hj
    have hjl:j < es.length:=by rw [g1,hl]; exact (List.getElem?_eq_some_iff.1 hj).1
    obtain ⟨x,q1,q2,q3⟩:=g2 j es[j] (List.getElem?_eq_getElem hjl)
    obtain ⟨r1,r2⟩:=hp j _ x i' y q1 hj
    have q3':(AK x).length = i.size:=by rw [q2]; exact q3
    refine ⟨r1.symm,by rw [← (r2.cells (by omega)).1]; exact q3',x,by rw [q2]; exact List.getElem?_eq_getElem hjl,q3',r2⟩
  have hsz:es.length * i.size = len * i.size:=by rw [g1,hlen]
  have hmul:len * i.size≤4096 * 4096:=Nat.mul_le_mul hb1 hb2
  have hno : ¬ (len * i.size > 2 ^ 24) := by have:(2:Nat) ^ 24 = 4096 * 4096:=by decide
                                             omega
  have hz0:∃ za:Array Value,(if len * i.size = 0 then pure #[] else (do pure (← zeroValue e).cells):Sem (Array Value)).run P w = .ok za w:=by
    by_cases h0:len * i.size = 0
    · exact ⟨#[],by rw [if_pos h0]; rfl⟩
    · exact ⟨zv.cells,by rw [if_neg h0]; simp [zeroValue,typeInfo,hi,hzv]⟩
  obtain ⟨za,hza⟩:=hz0
  obtain ⟨cr,e1,e2,e3,_⟩:=O7 i.size cparts 0 ((Array.range (len * i.size)).map (za[· % za.size]!)) (fun j i' v hj=>⟨(hcp j i' v hj).1,(hcp j i' v hj).2.1⟩)
    (by simp; rw [← hl,hlen]; exact Nat.le_refl _)
  have hcr:es.length * i.size = cr.size:=by rw [e2,hsz]; simp
  obtain ⟨m',A',k1,k2,k3⟩:=dD hr (sz:=i.size) (es:=es) (arr:=cr) e hpos hcr
    (fun e' he'=>by obtain ⟨j,hj⟩:=List.mem_iff_getElem?.1 he'; obtain ⟨x,_,_,q3⟩:=g2 j e' hj; exact q3)
    (fun e' he' a ha=>by
      obtain ⟨j,hj⟩:=List.mem_iff_getElem?.1 he'
      have hjl:j < cparts.length:=by rw [← hl,← g1]; exact (List.getElem?_eq_some_iff.1 hj).1
      obtain ⟨_,_,x,q1,q2,q3⟩:=hcp j _ _ (List.getElem?_eq_getElem hjl)
      rw [hj] at q1; injection q1 with q1; subst q1
      exact (q3.cells (by omega)).2.1 a ha)
    (fun i' e' j a hi' hj=>by
      have hil:i' < cparts.length:=by rw [← hl,← g1]; exact (List.getElem?_eq_some_iff.1 hi').1
      have hcj:cparts[i']? = some (cparts[i'].1,cparts[i'].2):=List.getElem?_eq_getElem hil
      obtain ⟨_,_,x,q1,q2,q3⟩:=hcp i' _ _ hcj
      rw [hi'] at q1; injection q1 with q1; subst q1
      obtain ⟨u,u1,u2⟩:=(q3.cells (by omega)).2.2 j a hj
      refine ⟨u,?_,u2⟩
      have hjl:j < i.size:=by rw [← q2]; exact (List.getElem?_eq_some_iff.1 hj).1
      have:=e3 i' _ _ hcj j hjl
      rw [Nat.zero_add] at this
      rw [this]; exact u1)
  have hS1:(mkS i.size es S).2 = S1:=by rw [h2]
  have hv1:(mkS i.size es S).1 = v:=by rw [h2]
  rw [hS1] at k1 k2 k3
  rw [hv1] at k3
  have hel:es.length = len:=g1.trans hlen
  rw [hel] at k3
  refine ⟨m',A',_,_,?_,k1,k2,k3⟩
  simp only [Instr.buildSlice,Sem.run_bind,run_underlying hu,Result.andThen_ok,DW hi,Sem.run_ite]
  rw [if_neg hno]
  simp only [Sem.run_pure,Result.andThen_ok]
  by_cases h0:len * i.size = 0
  · rw [if_pos h0] at hza ⊢
    simp only [Sem.run_pure,Result.andThen_ok] at hza ⊢
    injection hza with hza; subst hza
    simp only [e1]
    simp [newRow]
  · rw [if_neg h0] at hza ⊢
    have hzr:(zeroValue e).run P w = .ok zv w:=by simp [zeroValue,typeInfo,hi,hzv]
    simp only [Sem.run_bind,hzr,Result.andThen_ok,Sem.run_pure] at hza ⊢
    injection hza with hza; subst hza
    simp only [e1]
    simp [newRow]
end Go.Rf
namespace Go.Rf
open Go
variable {g0:Nat} {X:Nat→Prop} {m:Bd} {A:Nat→Prop} {S:St} {w:World} {P:Program}
theorem VU (hr:Rel g0 X m A S w) {t:TypeId} {l c:AV} {cl cc:Value} (hl:VR X m A S w l cl) (hc:VR X m A S w c cc) {v:AV} {S1:St}
    (h:Hh P t l c S = some (v,S1)):Ok P g0 X m A S w (Instr.makeSlice t cl cc) v S1:=by
  unfold Hh at h
  split at h <;> try (cases h; done)
  rename_i e n k hu
  cases hl; cases hc
  split at h <;> try (cases h; done)
  rename_i i z hi hz
  split at h <;> try (cases h; done)
  rename_i hcond
  obtain ⟨hn,rfl,hb,hzl,hpos,hzp⟩:=hcond
  injection h with h
  injection h with h1 h2
  unfold EP at hz
  rw [hi] at hz
  simp only [Option.map_eq_some_iff] at hz
  obtain ⟨zv,hzv,rfl⟩:=hz
  obtain ⟨c1,c2,c3⟩:=(VR.ofV (X:=X) (m:=m) (A:=A) (S:=S) (w:=w) zv).cells (by omega)
  have hbb:n.toNat * i.bytes≤70368744177664:=by
    have h3:n.toNat * i.bytes≤(n.toNat + 1) * (i.bytes + 1):=Nat.mul_le_mul (by omega) (by omega)
    omega
  have hnb:n.toNat≤70368744177664:=by
    have h3:(n.toNat + 1) * 1≤(n.toNat + 1) * (i.bytes + 1):=Nat.mul_le_mul_left _ (by omega)
    omega
  have hrun:=run_make (P:=P) w t e i zv hu hi hzv .i64 .i64 n n hn (Int.le_refl _) (by
      have:(i.bytes:Int) * n = ((n.toNat * i.bytes:Nat):Int):=by
        rw [Int.natCast_mul,Int.toNat_of_nonneg hn,Int.mul_comm]
      rw [this]; omega) (by omega)
  have hsize:(madeCells zv.cells (n.toNat * i.size)).size = n.toNat * i.size:=by simp [madeCells]
  obtain ⟨k1,k2⟩:=hr.newBox ⟨i.size,List.replicate n.toNat ((AK (ofV zv)).map (nrm false 2)),((AK (ofV zv)).map (nrm false 2)).all AC⟩ (madeCells zv.cells (n.toNat * i.size)) e
    (fun e' he'=>by rw [List.eq_of_mem_replicate he',List.length_map]; exact hzl) (fun e' he' a ha=>by rw [List.eq_of_mem_replicate he'] at ha; obtain ⟨a',ha',rfl⟩:=List.mem_map.1 ha; exact JR _ _ _ (c2 a' ha')) hpos
    (fun h e' he' a ha=>by rw [List.eq_of_mem_replicate he'] at ha; exact List.all_eq_true.1 h a ha) (by simp [hsize])
    (fun i' e' j a hi' hj=>by
      have hlt:i' < n.toNat:=by have:=(List.getElem?_eq_some_iff.1 hi').1; simpa using this
      rw [List.getElem?_replicate,if_pos hlt] at hi'
      injection hi' with hi'; subst hi'
      simp only [List.getElem?_map,Option.map_eq_some_iff] at hj
      obtain ⟨a',hj,rfl⟩:=hj
      have hj':j < i.size:=by rw [← hzl]; exact (List.getElem?_eq_some_iff.1 hj).1
      obtain ⟨u,hu',hv0⟩:=c3 j a' hj
      have hv:=PQ false 2 a' u (.inr (by have h9:=List.all_eq_true.1 hzp a' (List.mem_of_getElem? hj); simp only [Bool.not_eq_true'] at h9; exact h9)) hv0
      have hq:i' * i.size + j < n.toNat * i.size:=by
        have:=Nat.mul_le_mul_right i.size (show i' + 1≤n.toNat by omega)
        rw [Nat.add_mul,Nat.one_mul] at this; omega
      have hzs:zv.cells.size = i.size:=by omega
      refine ⟨u,?_,hv⟩
      have hmod:(i' * i.size + j) % i.size = j:=by rw [Nat.mul_comm,Nat.mul_add_mod,Nat.mod_eq_of_lt hj']
      have hjc:j < zv.cells.size:=by omega
      dsimp only
      simp only [madeCells,Array.getElem?_map,Array.getElem?_range,if_pos hq,Option.map_some,hzs,hmod]
      rw [getElem!_pos zv.cells j hjc]
      rw [Array.getElem?_eq_getElem hjc] at hu'
      exact hu')
  subst h1; subst h2
  refine ⟨_,A,_,_,hrun,k1,k2,.bsl _ _ _ _ _ _ _ ⟨i.size,List.replicate n.toNat ((AK (ofV zv)).map (nrm false 2)),((AK (ofV zv)).map (nrm false 2)).all AC⟩ (by simp) (by simp)
    (fun _=>⟨w.heap.size,0,by simp [BB],by omega,fun _=>by simp,Nat.le_refl _,fun _=>rfl,(fun h=>by cases h),fun q hq=>?_⟩)⟩
  simp only [World.shape?,heap_alloc_new,Option.some.injEq] at hq
  subst hq
  simp [hsize]
def Uk (P:Program) (X:Nat→Prop) (m:Bd) (A:Nat→Prop) (S:St) (w:World) (size:Nat) (news:List (List AV)) (cx:Value):Prop:=
  (∀ w',(Builtin.lenOf cx).run P w' = .ok news.length w')∧∃ vals:List Value,vals.length = news.length * size ∧
    (∀ w':World,(∀ blk o,blk < w.heap.size→w'.cell? ⟨blk,o,none⟩ = w.cell? ⟨blk,o,none⟩)→(Builtin.firstCells size news.length cx).run P w' = .ok vals.toArray w') ∧
    (∀ v∈vals,v.oneCell' = true) ∧
    (∀ (i:Nat) (e:List AV) (j:Nat) (a:AV),news[i]? = some e→e[j]? = some a→∃ v,vals[i * size + j]? = some v∧VR X m A S w a v)∧(∀ e∈news,∀ a∈e,Bv a = true)
theorem Zc {w:World} {p:Addr} {v:Value} (h:w.cell? p = some v):p.block < w.heap.size:=by
  unfold World.cell? at h
  cases hb:w.heap[p.block]? with
  | none=>rw [hb] at h; cases h
  | some o=>exact (Array.getElem?_eq_some_iff.1 hb).1
theorem TJ {size n:Nat} (hs:0 < size) (val:Nat→Nat→Value) (i j:Nat) (hi:i < n) (hj:j < size) :
    ((List.range (n * size)).map fun q=>val (q / size) (q % size))[i * size + j]? = some (val i j):=by
  have hq:i * size + j < n * size:=by
    have:=Nat.mul_le_mul_right size (show i + 1≤n by omega)
    rw [Nat.add_mul,Nat.one_mul] at this; omega
  have e1:(i * size + j) / size = i:=by rw [Nat.mul_comm,Nat.mul_add_div hs,Nat.div_eq_of_lt hj,Nat.add_zero]
  have e2:(i * size + j) % size = j:=by rw [Nat.mul_comm,Nat.mul_add_mod,Nat.mod_eq_of_lt hj]
  simp [hq,e1,e2]
theorem H6 {size q n:Nat} (hs:0 < size) (hq:q < n * size):q / size < n∧q % size < size∧q / size * size + q % size = q:=by
  refine ⟨(Nat.div_lt_iff_lt_mul hs).2 hq,Nat.mod_lt _ hs,?_⟩
  rw [Nat.mul_comm]; exact Nat.div_add_mod q size
theorem Ni (hr:Rel g0 X m A S w) {x:AV} {cx:Value} (hx:VR X m A S w x cx) {size:Nat} (hs:0 < size) {news:List (List AV)} (h:BU S x = some news) (hl:∀ e∈news,e.length = size) :
    Uk P X m A S w size news cx:=by
  have mk:∀ (blk off cap:Nat) (val:Nat→Nat→Value),(∀ i j,i < news.length→j < size→w.cell? ⟨blk,off + (i * size + j),none⟩ = some (val i j)) →
      (∀ (i:Nat) (e:List AV) (j:Nat) (a:AV),news[i]? = some e→e[j]? = some a→VR X m A S w a (val i j))→(∀ e∈news,∀ a∈e,Bv a = true) →
      cx = .slice (some ⟨blk,off,none⟩) news.length cap→Uk P X m A S w size news cx:=by
    rintro blk off cap val hc hv hce rfl
    refine ⟨fun w'=>by simp [Builtin.lenOf],(List.range (news.length * size)).map (fun q=>val (q / size) (q % size)),by simp,fun w' hw'=>?_,fun v hv'=>?_,fun i e j a hi hj=>?_,hce⟩
    · simp only [Builtin.firstCells]
      rw [GH w' blk off (fun q=>val (q / size) (q % size)) (news.length * size) (fun q hq=>by
        obtain ⟨q1,q2,q3⟩:=H6 hs hq
        have:=hc _ _ q1 q2
        rw [q3] at this
        rw [hw' blk _ (Zc this)]; exact this)]
    · obtain ⟨q,hq,rfl⟩:=List.mem_map.1 hv'
      obtain ⟨q1,q2,q3⟩:=H6 hs (List.mem_range.1 hq)
      have he:news[q / size]? = some news[q / size]:=List.getElem?_eq_getElem q1
      have hel:q % size < (news[q / size]).length:=by rw [hl _ (List.getElem_mem q1)]; exact q2
      exact (hv _ _ _ _ he (List.getElem?_eq_getElem hel)).oneCell (hce _ (List.getElem_mem q1) _ (List.getElem_mem hel))
    · have hil:i < news.length:=(List.getElem?_eq_some_iff.1 hi).1
      have hjl:j < size:=by rw [← hl e (List.mem_of_getElem? hi)]; exact (List.getElem?_eq_some_iff.1 hj).1
      exact ⟨val i j,TJ hs val i j hil hjl,hv i e j a hi hj⟩
  have mk0:∀ (a:Option Addr) (cap:Nat),news = []→cx = .slice a 0 cap→Uk P X m A S w size news cx:=by
    rintro a cap rfl rfl
    refine ⟨fun w'=>by simp [Builtin.lenOf],[],by simp,fun w' hw'=>?_,by simp,by simp,by simp⟩
    cases a <;> simp [Builtin.firstCells,loadCells,loadCellsFrom]
  cases hx with
  | rsl0 l fl a cap hfl=>
    simp [BU] at h; subst h
    exact mk0 a cap rfl rfl
  | rsl l fl es blk off s cap val hA hX hfl hle hlen hce hc hv=>
    simp [BU] at h; subst h
    by_cases h0:es = []
    · subst h0; exact mk0 _ cap rfl rfl
    · have hlt:0 < es.length:=List.length_pos_iff.2 h0
      have hs':s = size:=by rw [← hlen 0 _ (List.getElem?_eq_getElem hlt)]; exact hl _ (List.getElem_mem hlt)
      subst hs'
      exact mk blk off cap val hc hv (fun e he a ha=>by obtain ⟨j,hj⟩:=List.mem_iff_getElem?.1 he; exact H3 (hce j e hj a ha)) rfl
  | bsl b i n L fl ad cap B hB hL hb=>
    simp only [BU,hB] at h
    split at h <;> try (cases h; done)
    rename_i e0
    injection h with h
    obtain ⟨blk,base,q1,q2,had,q4,q5,q6,q7⟩:=hb e0
    have hn:news.length = n:=by rw [← h]; simp; omega
    by_cases h0:n = 0
    · subst h0
      have:news = []:=List.eq_nil_of_length_eq_zero hn
      exact mk0 _ cap this rfl
    · have had:=had (by omega)
      subst had
      obtain ⟨B1,hB1,hb1⟩:=hr.box b blk base q1
      rw [hB] at hB1; injection hB1 with hB1; subst hB1
      obtain ⟨arr,ty,g1,g2,g3⟩:=hb1.blk
      have hget:∀ (i':Nat) (e':List AV),news[i']? = some e'→B.es[i + i']? = some e'∧i' < n:=by
        intro i' e' hi'
        rw [← h,List.getElem?_take,List.getElem?_drop] at hi'
        split at hi'
        · rename_i hlt; exact ⟨hi',hlt⟩
        · cases hi'
      have hsz:B.sz = size:=by
        have hlt:0 < news.length:=by omega
        have:=hget 0 _ (List.getElem?_eq_getElem hlt)
        rw [← hb1.len _ (List.mem_of_getElem? this.1)]
        exact hl _ (List.getElem_mem hlt)
      have hcell:∀ i' j,i' < news.length→j < size→∃ v,w.cell? ⟨blk,base + i * B.sz + (i' * size + j),none⟩ = some v∧∀ e' a,news[i']? = some e'→e'[j]? = some a→VR X m A S w a v:=by
        intro i' j hi' hj
        have he':=hget i' _ (List.getElem?_eq_getElem hi')
        have hjl:j < (news[i']).length:=by rw [hl _ (List.getElem_mem hi')]; exact hj
        obtain ⟨v,r1,r2⟩:=g3 (i + i') _ j _ he'.1 (List.getElem?_eq_getElem hjl)
        refine ⟨v,?_,fun e' a hh ha=>?_⟩
        · rw [cell_of_row w blk _ arr ty (0,0) g1,← hsz,show base + i * B.sz + (i' * B.sz + j) = base + ((i + i') * B.sz + j) by rw [Nat.add_mul]; omega]
          exact r1
        · rw [List.getElem?_eq_getElem hi'] at hh; injection hh with hh; subst hh
          rw [List.getElem?_eq_getElem hjl] at ha; injection ha with ha; subst ha
          exact r2
      refine mk blk (base + i * B.sz) cap (fun i' j=>(w.cell? ⟨blk,base + i * B.sz + (i' * size + j),none⟩).getD default) (fun i' j hi' hj=>?_) (fun i' e' j a hh ha=>?_)
        (fun e he a ha=>by obtain ⟨j,hj⟩:=List.mem_iff_getElem?.1 he; exact hb1.cell e (List.mem_of_getElem? (hget j e hj).1) a ha) (by rw [hn])
      · obtain ⟨v,r1,_⟩:=hcell i' j hi' hj
        simp [r1]
      · have hi':i' < news.length:=(List.getElem?_eq_some_iff.1 hh).1
        have hj:j < size:=by rw [← hl e' (List.mem_of_getElem? hh)]; exact (List.getElem?_eq_some_iff.1 ha).1
        obtain ⟨v,r1,r2⟩:=hcell i' j hi' hj
        simpa [r1] using r2 e' a hh ha
  | _=>simp [BU] at h
theorem VH (s:ByteArray):Uk P X m A S w 1 (EA s) (.string s):=by
  have hl:(EA s).length = s.size:=by simp [EA]
  refine ⟨fun w'=>by simp [Builtin.lenOf,hl],s.data.toList.map (fun b=>.int .u8 b.toNat),by simp [EA],fun w' _=>?_,fun v hv=>?_,fun i e j a hi hj=>?_,fun e he a ha=>?_⟩
  · simp only [Builtin.firstCells,hl,Sem.run_pure]
    congr 1
    have:s.extract 0 s.size = s:=by
      cases s; simp [ByteArray.extract,ByteArray.copySlice]; right; exact Nat.le_refl _
    rw [this]
    apply Array.ext'; simp
  · obtain ⟨b,_,rfl⟩:=List.mem_map.1 hv; rfl
  · simp only [EA,List.getElem?_map,Option.map_eq_some_iff] at hi
    obtain ⟨b,hb,rfl⟩:=hi
    cases j with
    | zero=>
      simp at hj; subst hj
      exact ⟨.int .u8 b.toNat,by simp only [Nat.mul_one,Nat.add_zero,List.getElem?_map,hb,Option.map_some],.int _ _⟩
    | succ j=>simp at hj
  · simp only [EA,List.mem_map] at he
    obtain ⟨b,_,rfl⟩:=he
    simp at ha; subst ha; rfl
end Go.Rf
