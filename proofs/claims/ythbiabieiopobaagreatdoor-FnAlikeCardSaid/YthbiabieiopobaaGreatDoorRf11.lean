/- clear, max, min, cap, conversions; every operation together. -/
import Derived.Test.YthbiabieiopobaaGreatDoorRf10
set_option linter.unusedVariables false
set_option linter.unusedSimpArgs false
namespace Go.Rf
open Go
variable {g0:Nat} {X:Nat→Prop} {m:Bd} {A:Nat→Prop} {S:St} {w:World} {P:Program}
theorem Xb (hr:Rel g0 X m A S w) {x:AV} {cx:Value} (hx:VR X m A S w x cx) {ts:Array TypeId} {t ty:TypeId} (h0:ts[0]? = some t) {v:AV} {S1:St}
  (h:Ed P t x S = some (v,S1)):Ok P g0 X m A S w (Builtin.clear_ ts ty #[cx]) v S1:=by
 unfold Ed at h
 split at h <;> try (cases h; done)
 rename_i e hu
 split at h <;> try (cases h; done)
 rename_i z hz
 unfold EP at hz
 split at hz <;> try (cases hz; done)
 rename_i i hi
 rw [Option.map_eq_some_iff] at hz
 obtain ⟨zv,hzv,rfl⟩:=hz
 cases hx with
 | rsl0 l fl a cap hfl=>
  injection h with h; injection h with h1 h2; subst h1; subst h2
  refine Ok.stay hr (cv:=.tuple #[]) ?_ VR.und
  cases a <;> simp [Builtin.clear_,h0,run_underlying hu]
 | rsl l fl es blk off s cap val hA hX hfl hle hlen hce hc hv=>
  cases es with
  | nil=>
   injection h with h; injection h with h1 h2; subst h1; subst h2
   exact Ok.stay hr (cv:=.tuple #[]) (by simp [Builtin.clear_,h0,run_underlying hu]) VR.und
  | cons a b=>cases h
 | bsl b k n L fl ad cap B hB hL hb=>
  dsimp only at h
  split at h
  ·rename_i hn
   subst hn
   injection h with h; injection h with h1 h2; subst h1; subst h2
   exact Ok.stay hr (cv:=.tuple #[]) (by simp [Builtin.clear_,h0,run_underlying hu]) VR.und
  ·rename_i hn
   rw [hB] at h
   dsimp only at h
   split at h <;> try (cases h; done)
   rename_i hc
   obtain ⟨c0,c1,c2⟩:=hc
   injection h with h; injection h with h1 h2; subst h1; subst h2
   obtain ⟨blk,base,q1,q2,had,q4,q5,q6,q7⟩:=hb c0
   have had:=had (by omega)
   subst had
   obtain ⟨B1,hB1,hb1⟩:=hr.box b blk base q1
   rw [hB] at hB1; injection hB1 with hB1; subst hB1
   obtain ⟨arr,ty0,g1,g2,g3⟩:=hb1.blk
   have hpos:=hb1.pos
   obtain ⟨z1,z2,z3⟩:=(VR.ofV (X:=X) (m:=m) (A:=A) (S:=S) (w:=w) zv).cells (by omega)
   have hzs:zv.cells.size = B.sz:=by omega
   have hzc:(Builtin.zeroCells zv.cells n).toList.length = n * B.sz:=by simp [Builtin.zeroCells,hzs]
   have hmul:(k + n) * B.sz≤B.es.length * B.sz:=Nat.mul_le_mul_right _ (by omega)
   have hkn:(k + n) * B.sz = k * B.sz + n * B.sz:=Nat.add_mul _ _ _
   have hget:∀ i' j,i' < n→j < B.sz→(Builtin.zeroCells zv.cells n).toList[i' * B.sz + j]? = zv.cells[j]?:=by
    intro i' j hi' hj
    have hq:i' * B.sz + j < n * B.sz:=by
     have:=Nat.mul_le_mul_right B.sz (show i' + 1≤n by omega)
     rw [Nat.add_mul,Nat.one_mul] at this; omega
    have hmod:(i' * B.sz + j) % B.sz = j:=by rw [Nat.mul_comm,Nat.mul_add_mod,Nat.mod_eq_of_lt hj]
    have hjc:j < zv.cells.size:=by omega
    rw [Array.getElem?_toList]
    simp only [Builtin.zeroCells,Array.getElem?_map,Array.getElem?_range,hzs,if_pos hq,Option.map_some,hmod]
    rw [getElem!_pos zv.cells j hjc,Array.getElem?_eq_getElem hjc]
   have hone:∀ v∈(Builtin.zeroCells zv.cells n).toList,v.oneCell' = true:=by
    intro v hv
    obtain ⟨q,hq⟩:=List.mem_iff_getElem?.1 hv
    have hql:q < n * B.sz:=by rw [← hzc]; exact (List.getElem?_eq_some_iff.1 hq).1
    obtain ⟨r1,r2,r3⟩:=H6 hpos hql
    have:=hget _ _ r1 r2
    rw [r3,hq] at this
    have hxl:q % B.sz < (AK (ofV zv)).length:=by omega
    obtain ⟨u,hu',hvr⟩:=z3 _ _ (List.getElem?_eq_getElem hxl)
    rw [hu'] at this; injection this with this; subst this
    exact hvr.oneCell (z2 _ (List.getElem_mem hxl))
   have hst:=run_storeCells_at P blk (base + k * B.sz) ty0 (Builtin.zeroCells zv.cells n).toList 0 arr w g1 (by rw [hzc]; omega) hone
   simp only [Nat.add_zero] at hst
   have hread:∀ q,(arr.toList.take (base + k * B.sz)++(Builtin.zeroCells zv.cells n).toList++arr.toList.drop (base + k * B.sz + (Builtin.zeroCells zv.cells n).toList.length)).toArray[q]? =
     if base + k * B.sz≤q∧q < base + k * B.sz + n * B.sz then (Builtin.zeroCells zv.cells n).toList[q - (base + k * B.sz)]? else arr[q]?:=by
    intro q
    simp only [List.getElem?_toArray,List.append_assoc]
    rw [List.getElem?_append,List.getElem?_append,List.getElem?_take,List.getElem?_drop]
    simp only [List.length_take,hzc]
    rw [Array.length_toList]
    have e3:min (base + k * B.sz) arr.size = base + k * B.sz:=by omega
    rw [e3]
    by_cases u1:q < base + k * B.sz
    ·rw [if_pos u1,if_pos u1,if_neg (by omega)]; simp
    ·rw [if_neg u1]
     by_cases u2:q < base + k * B.sz + n * B.sz
     ·rw [if_pos (by omega),if_pos (by omega)]
     ·rw [if_neg (by omega),if_neg (by omega)]
      simp only [Array.getElem?_toList]
      congr 1; omega
   have hlenB:(B.es.take k++(List.replicate n (AK (ofV zv))++B.es.drop (k + n))).length = B.es.length:=by
    rw [List.length_append,List.length_append,List.length_take,List.length_drop,List.length_replicate]; omega
   have hmem:∀ e'∈B.es.take k++(List.replicate n (AK (ofV zv))++B.es.drop (k + n)),e'∈B.es∨e' = AK (ofV zv):=by
    intro e' he'
    rcases List.mem_append.1 he' with hh | hh
    ·exact .inl (List.mem_of_mem_take hh)
    ·rcases List.mem_append.1 hh with hh | hh
     ·exact .inr (List.eq_of_mem_replicate hh)
     ·exact .inl (List.mem_of_mem_drop hh)
   obtain ⟨k1,k2⟩:=hr.setBox (B:=B) (B':={ B with es:=B.es.take k++(List.replicate n (AK (ofV zv))++B.es.drop (k + n)),pl:=B.pl && (AK (ofV zv)).all AC }) q1 hB g1
    (arr':=(arr.toList.take (base + k * B.sz)++(Builtin.zeroCells zv.cells n).toList++arr.toList.drop (base + k * B.sz + (Builtin.zeroCells zv.cells n).toList.length)).toArray)
    (by simp only [List.size_toArray,List.length_append,List.length_take,List.length_drop,hzc,Array.length_toList]; omega) rfl (by rw [hlenB]; exact Nat.le_refl _) (fun e' he'=>by
     rcases hmem e' he' with hh | hh
     ·exact hb1.len e' hh
     ·rw [hh]; exact c1) (fun e' he' a ha=>by
     rcases hmem e' he' with hh | hh
     ·exact hb1.cell e' hh a ha
     ·rw [hh] at ha; exact z2 a ha) (fun hp e' he' a ha=>by
     simp only [Bool.and_eq_true] at hp
     rcases hmem e' he' with hh | hh
     ·exact hb1.pl hp.1 e' hh a ha
     ·rw [hh] at ha; exact List.all_eq_true.1 hp.2 a ha)
    (by rw [hlenB]; exact g2)
    (fun i' e' j a hi' hj=>by
     rw [hread]
     have hel':e'.length = B.sz:=by
      rcases hmem e' (List.mem_of_getElem? hi') with hh | hh
      ·exact hb1.len e' hh
      ·rw [hh]; exact c1
     have hjl:j < B.sz:=by rw [← hel']; exact (List.getElem?_eq_some_iff.1 hj).1
     have keepOld:∀ (_:B.es[i']? = some e') (_:¬ (k≤i'∧i' < k + n)),∃ v,(if base + k * B.sz≤base + (i' * B.sz + j)∧base + (i' * B.sz + j) < base + k * B.sz + n * B.sz then (Builtin.zeroCells zv.cells n).toList[base + (i' * B.sz + j) - (base + k * B.sz)]? else arr[base + (i' * B.sz + j)]?) = some v∧VR X m A S w a v:=by
      intro hB' hout
      obtain ⟨v,s1,s2⟩:=g3 i' e' j a hB' hj
      refine ⟨v,?_,s2⟩
      rw [if_neg ?_]
      ·exact s1
      ·rintro ⟨u1,u2⟩
       rcases Nat.lt_or_ge i' k with hlt | hge
       ·have hm3:=Nat.mul_le_mul_right B.sz (show i' + 1≤k by omega)
        rw [Nat.add_mul,Nat.one_mul] at hm3; omega
       ·have hm3:=Nat.mul_le_mul_right B.sz (show k + n≤i' by omega)
        omega
     rw [List.getElem?_append,List.getElem?_append,List.getElem?_take,List.getElem?_drop] at hi'
     have e3:(B.es.take k).length = k:=by rw [List.length_take]; omega
     rw [e3,List.length_replicate] at hi'
     by_cases u1:i' < k
     ·rw [if_pos u1,if_pos u1] at hi'
      exact keepOld hi' (by omega)
     ·rw [if_neg u1] at hi'
      by_cases u2:i' - k < n
      ·rw [if_pos u2,List.getElem?_replicate,if_pos u2] at hi'
       injection hi' with hi'; subst hi'
       obtain ⟨u,s1,s2⟩:=z3 j a hj
       refine ⟨u,?_,s2⟩
       have hsub:i' * B.sz = k * B.sz + (i' - k) * B.sz:=by rw [← Nat.add_mul]; congr 1; omega
       have hm3:=Nat.mul_le_mul_right B.sz (show (i' - k) + 1≤n by omega)
       rw [Nat.add_mul,Nat.one_mul] at hm3
       rw [if_pos (by omega),show base + (i' * B.sz + j) - (base + k * B.sz) = (i' - k) * B.sz + j by omega,hget _ _ u2 hjl]
       exact s1
      ·rw [if_neg u2] at hi'
       rw [show k + n + (i' - k - n) = i' by omega] at hi'
       exact keepOld hi' (by omega))
   refine ⟨m,A,_,.tuple #[],?_,k1,k2,VR.und⟩
   obtain ⟨n',rfl⟩:∃ n',n = n' + 1:=⟨n - 1,by omega⟩
   simp only [Builtin.clear_,h0,Sem.run_bind,run_underlying hu,Result.andThen_ok]
   simp only [List.getElem?_toArray,List.getElem?_cons_zero,Sem.run_bind,run_underlying hu,Result.andThen_ok,zeroValue,typeInfo,run_program,hi,hzv,Sem.run_pure,hst]
 | _=>simp at h
theorem VT (hr:Rel g0 X m A S w) {mn:Bool} {as_:List AV} {cs:Array Value} (hl:as_.length = cs.size) (ha:∀ (i:Nat) (a:AV) (v:Value),as_[i]? = some a→cs[i]? = some v→VR X m A S w a v) {v:AV}
  (h:amax mn as_ = some v) (ts:Array TypeId) (ty:TypeId):Ok P g0 X m A S w (if mn then Builtin.min_ ts ty cs else Builtin.max_ ts ty cs) v S:=by
 unfold amax at h
 split at h <;> try (cases h; done)
 rename_i k x k' y
 split at h <;> try (cases h; done)
 rename_i hk
 injection h with h; subst h
 obtain ⟨l⟩:=cs
 match l,hl with
 | [u,v'],_=>
  have h1:=ha 0 _ u rfl rfl
  have h2:=ha 1 _ v' rfl rfl
  cases h1; cases h2
  cases mn
  ·exact Ok.stay hr (cv:=.int k (if y > x then y else x)) (by simp [Builtin.max_,Builtin.max2]) (.int _ _)
  ·exact Ok.stay hr (cv:=.int k (if y < x then y else x)) (by simp [Builtin.min_,Builtin.min2]) (.int _ _)
theorem eV (hr:Rel g0 X m A S w) {x v:AV} {cx:Value} (hx:VR X m A S w x cx) {t ty e:TypeId} {ts:Array TypeId} (ht:ts[0]? = some t) (hu:P.underlying t = some (.slice e))
  (h:X6 x S = some v) :
  Ok P g0 X m A S w (Builtin.cap_ ts ty #[cx]) v S:=by
 unfold X6 at h
 cases hx with
 | rsl0 l fl a cap hfl=>
  cases fl with
  | false=>cases h
  | true=>
   injection h with h; subst h
   have:=hfl rfl; subst this
   exact Ok.stay hr (cv:=.int .i64 0) (by simp [Builtin.cap_,ht,run_underlying hu,goInt]) (.int _ _)
 | rsl l fl es blk off s cap val hA hX hfl hle hlen hce hc hv=>
  cases fl with
  | false=>cases h
  | true=>
   injection h with h; subst h
   have:=hfl rfl; subst this
   exact Ok.stay hr (cv:=.int .i64 es.length) (by simp [Builtin.cap_,ht,run_underlying hu,goInt]) (.int _ _)
 | bsl b k n L fl ad cap B hB hL hb=>
  cases fl with
  | false=>cases h
  | true=>
   dsimp only at h
   rw [hB] at h
   dsimp only at h
   split at h <;> try (cases h; done)
   rename_i hc
   injection h with h; subst h
   obtain ⟨blk,base,q1,q2,q3,q4,q5,_⟩:=hb hc.1
   have:=q5 rfl; subst this
   exact Ok.stay hr (cv:=.int .i64 cap) (by simp [Builtin.cap_,ht,run_underlying hu,goInt]) (.int _ _)
 | _=>simp at h
theorem Jh (F:Value→ByteArray→Sem (ForInStep ByteArray)) (hF:∀ (n:Int) (s:ByteArray),F (.int .u8 n) s = pure (.yield (s.push (UInt8.ofNat n.toNat)))):∀ (ns:List Int) (s:ByteArray) (w:World),
  (forIn (ns.map fun n=>Value.int .u8 n) s F).run P w = .ok ⟨(s.data.toList++ns.map fun n=>UInt8.ofNat n.toNat).toArray⟩ w
 | [],s,w=>by simp
 | b::bs,s,w=>by
  have ih:=Jh F hF bs (s.push (UInt8.ofNat b.toNat)) w
  simp only [List.map_cons,List.forIn_cons,hF,Sem.run_bind,Sem.run_pure,Result.andThen_ok]
  rw [ih]
  congr 2
  simp [ByteArray.push]
theorem ME (a:Addr) (n c:Nat) (w:World) (ns:List Int) (h:(loadCells a n).run P w = .ok (ns.map fun n=>Value.int .u8 n).toArray w) :
  (Conv.bytesToString (.slice (some a) n c)).run P w = .ok (.string ⟨(ns.map fun n=>UInt8.ofNat n.toNat).toArray⟩) w:=by
 simp only [Conv.bytesToString,Sem.run_bind,h,Result.andThen_ok]
 rw [← Array.forIn_toList]
 rw [Jh _ (fun b s=>by simp)]
 simp [ByteArray.empty,ByteArray.emptyWithCapacity]
 rfl
theorem Ll:∀ (es:List (List AV)) (l:List UInt8),Iq es = some l→∃ ns:List Int,es = ns.map (fun n=>[AV.int .u8 n])∧l = ns.map fun n=>UInt8.ofNat n.toNat
 | [],l,h=>by simp [Iq] at h; subst h; exact ⟨[],rfl,rfl⟩
 | e::r,l,h=>by
  unfold Iq at h
  split at h
  ·simp at *
  ·rename_i n r' heq
   injection heq with e1 e2
   subst e1; subst e2
   rw [Option.map_eq_some_iff] at h
   obtain ⟨l',h1,rfl⟩:=h
   obtain ⟨ns,rfl,rfl⟩:=Ll _ l' h1
   exact ⟨n::ns,rfl,rfl⟩
  ·cases h
theorem YW (hr:Rel g0 X m A S w) {x v:AV} {cx:Value} (hx:VR X m A S w x cx) {src dst:TypeId} (h:Dw P src dst x S = some v):Ok P g0 X m A S w (convert src dst cx) v S:=by
 unfold Dw at h
 split at h <;> try (cases h; done)
 rename_i d hs
 split at h <;> try (cases h; done)
 ·rename_i k hd
  split at h <;> try (cases h; done)
  cases hx
  injection h with h; subst h
  refine Ok.stay hr (cv:=.int k (k.wrap _)) ?_ (.int _ _)
  cases d <;> simp [convert,run_underlying hs,run_underlying hd,Conv.intToInt]
 ·rename_i hd
  split at h <;> try (cases h; done)
  ·split at h <;> try (cases h; done)
   cases hx
   injection h with h; subst h
   exact Ok.stay hr (cv:=.string _) (by simp [convert,run_underlying hs,run_underlying hd]) (.str _)
  ·rename_i e
   split at h <;> try (cases h; done)
   rename_i he
   have hf:=KQ hr (X2:=fun c=>X c∨rng m c) (m2:=fun _=>none) (A2:=fun c=>A c∨rng m c) (S2:=[]) true (fun c h=>.inl h) (fun c h=>.inr h)
    (fun c hA hX h=>h.elim hX (fun ⟨b,o,hb⟩=>(hr.dis b c o hb).1 hA)) (by simp) 8 x cx hx
   replace hf:=QY hf
   have hrun:∀ bs:List UInt8,(∃ a l c,cx = .slice a l c)→(Conv.bytesToString cx).run P w = .ok (.string ⟨bs.toArray⟩) w→Ok P g0 X m A S w (convert src dst cx) (.str ⟨bs.toArray⟩) S:=by
    rintro bs ⟨a,l,c,rfl⟩ hb
    refine Ok.stay hr (cv:=.string ⟨bs.toArray⟩) ?_ (.str _)
    simp only [convert,Sem.run_bind,run_underlying hs,run_underlying hd,Result.andThen_ok,run_underlying he]
    exact hb
   unfold fz at h
   split at h <;> try (cases h; done)
   rename_i l fl es hfz
   rw [Option.map_eq_some_iff] at h
   obtain ⟨bs,h1,rfl⟩:=h
   rw [hfz] at hf
   obtain ⟨ns,rfl,rfl⟩:=Ll es bs h1
   generalize hes:ns.map (fun n=>[AV.int IntKind.u8 n]) = es at hf
   cases hf with
   | rsl0 l fl a cap hfl=>
    have:ns = []:=List.map_eq_nil_iff.1 hes
    subst this
    refine hrun _ ⟨_,_,_,rfl⟩ ?_
    cases a with
    | none=>simp [Conv.bytesToString,ByteArray.empty,ByteArray.emptyWithCapacity]; rfl
    | some a=>exact ME a 0 cap w [] (by simp [loadCells,loadCellsFrom])
   | rsl l fl es blk off s cap val hA hX hfl hle hlen hce hc hv=>
    subst hes
    refine hrun _ ⟨_,_,_,rfl⟩ (ME _ _ cap w ns ?_)
    have hone:∀ i (hi:i < ns.length),s = 1∧val i 0 = .int .u8 ns[i]:=by
     intro i hi
     have q1:(ns.map (fun n=>[AV.int IntKind.u8 n]))[i]? = some [AV.int .u8 ns[i]]:=by simp [hi]
     have hs1:=hlen i _ q1
     have hv1:=hv i _ 0 _ q1 rfl
     refine ⟨by simpa using hs1.symm,?_⟩
     generalize val i 0 = u at hv1
     cases hv1; rfl
    rw [List.length_map]
    rw [GH w blk off (fun q=>val q 0) ns.length (fun q hq=>by
     have:=hc q 0 (by simpa using hq) (by rw [(hone q hq).1]; omega)
     rw [(hone q hq).1] at this
     simpa using this)]
    congr 2
    apply List.ext_getElem?
    intro q
    by_cases hq:q < ns.length
    ·simp [hq,(hone q hq).2]
    ·simp [hq]
end Go.Rf
