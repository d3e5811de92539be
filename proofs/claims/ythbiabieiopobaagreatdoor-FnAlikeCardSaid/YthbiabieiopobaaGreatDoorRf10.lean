/- append, clear, max and min, conversions. -/
import Derived.Test.YthbiabieiopobaaGreatDoorRf9
set_option linter.unusedVariables false
set_option linter.unusedSimpArgs false
namespace Go.Rf
open Go
variable {g0:Nat} {X:Nat→Prop} {m:Bd} {A:Nat→Prop} {S:St} {w:World} {P:Program}
def FQ:TypeDesc→Bool
  | .slice _=>true
  | .string=>true
  | _=>false
theorem Jm {ts:Array TypeId} {t t' e ty:TypeId} {d':TypeDesc} {i:TypeInfo} (h0:ts[0]? = some t) (h1:ts[1]? = some t') (hu:P.underlying t = some (.slice e)) (hu':P.underlying t' = some d') (hd:FQ d' = true)
    (hi:P.info? e = some i) (base:Option Addr) (sLen sCap n:Nat) (cx:Value) (vals:List Value) (hlen:∀ w',(Builtin.lenOf cx).run P w' = .ok n w') (hf:(Builtin.firstCells i.size n cx).run P w = .ok vals.toArray w)
    (hroom:sLen + n≤sCap) (w':World) (hst:∀ a,base = some a→(storeCells (a.add (sLen * i.size)) vals).run P w = .ok () w') (hnone:base = none→w' = w) :
    (Builtin.append_ ts ty #[.slice base sLen sCap,cx]).run P w = .ok (.slice base (sLen + n) sCap) w':=by
  cases base with
  | none=>
    have:=hnone rfl; subst this
    cases d' <;> first | (simp [FQ] at hd; done) | simp [Builtin.append_,h0,h1,run_underlying hu,run_underlying hu',sizeOf,typeInfo,hi,hlen,hroom,hf]
  | some a=>
    have:=hst a rfl
    cases d' <;> first | (simp [FQ] at hd; done) | simp [Builtin.append_,h0,h1,run_underlying hu,run_underlying hu',sizeOf,typeInfo,hi,hlen,hroom,hf,this]
theorem OW {ts:Array TypeId} {t t' e ty:TypeId} {d':TypeDesc} {i:TypeInfo} {zv:Value} (h0:ts[0]? = some t) (h1:ts[1]? = some t') (hu:P.underlying t = some (.slice e)) (hu':P.underlying t' = some d') (hd:FQ d' = true)
    (hi:P.info? e = some i) (hzv:i.zero = some zv) (base:Option Addr) (sLen sCap n:Nat) (cx:Value) (olds vals:List Value) (hlen:∀ w',(Builtin.lenOf cx).run P w' = .ok n w')
    (hfo:(Builtin.firstCells i.size sLen (.slice base sLen sCap)).run P w.drew = .ok olds.toArray w.drew) (hf:(Builtin.firstCells i.size n cx).run P w.drew = .ok vals.toArray w.drew)
    (hg:¬ sLen + n≤sCap) (h63:(sLen + n)≤9223372036854775807) (hb0:0 < i.bytes∨sLen + n≤9223372036854775807) (hfit:Builtin.nextslicecap (sLen + n) sCap * i.bytes≤281474976710656) :
    (Builtin.append_ ts ty #[.slice base sLen sCap,cx]).run P w = .ok (.slice (some ⟨w.heap.size,0,none⟩) (sLen + n) (grownCap w (sLen + n) sCap e))
      (w.drew.alloc (.cells (olds.toArray++vals.toArray++Builtin.zeroCells zv.cells (grownCap w (sLen + n) sCap e - (sLen + n))) e)):=by
  have h63':¬ (9223372036854775807 < ((sLen:Int) + (n:Int))):=by omega
  have h48':¬ (281474976710656 < Builtin.nextslicecap (sLen + n) sCap * i.bytes):=by omega
  cases d' <;> first
    | (simp [FQ] at hd; done)
    | (simp [Builtin.append_,h0,h1,run_underlying hu,run_underlying hu',sizeOf,typeInfo,zeroValue,hi,hzv,hlen,hg,h63',h48',Question.forced,hf,hfo,newRow,grownCap]
       congr 2
       apply Array.ext'
       simp [List.append_assoc])
    | simp [Builtin.append_,h0,h1,run_underlying hu,run_underlying hu',sizeOf,typeInfo,zeroValue,hi,hzv,hlen,hg,h63',h48',Question.forced,hf,hfo,newRow,grownCap]
theorem Zh (hr:Rel g0 X m A S w) {sz need cap:Nat} {olds news:List (List AV)} {ov nv:List Value} {z:Array Value} {e:TypeId} (hpos:0 < sz)
    (ho:olds.length * sz = ov.length) (hn:news.length * sz = nv.length) (hneed:olds.length + news.length = need) (hcap:need≤cap) (hz:z.size = sz)
    (hlo:∀ e∈olds,e.length = sz) (hln:∀ e∈news,e.length = sz) (hco:∀ e∈olds,∀ a∈e,Bv a = true) (hcn:∀ e∈news,∀ a∈e,Bv a = true)
    (hvo:∀ (i:Nat) (e:List AV) (j:Nat) (a:AV),olds[i]? = some e→e[j]? = some a→∃ v,ov[i * sz + j]? = some v∧VR X m A S w a v)
    (hvn:∀ (i:Nat) (e:List AV) (j:Nat) (a:AV),news[i]? = some e→e[j]? = some a→∃ v,nv[i * sz + j]? = some v∧VR X m A S w a v) :
    let arr:=ov.toArray++nv.toArray++Builtin.zeroCells z (cap - need)
    arr.size = cap * sz∧(∀ e'∈olds++news,e'.length = sz)∧(∀ e'∈olds++news,∀ a∈e',Bv a = true)∧(olds++news).length * sz≤arr.size ∧
      ∀ (i:Nat) (e:List AV) (j:Nat) (a:AV),(olds++news)[i]? = some e→e[j]? = some a→∃ v,arr[i * sz + j]? = some v∧VR X m A S w a v:=by
  intro arr
  have hsize:arr.size = cap * sz:=by
    simp only [arr,Array.size_append,List.size_toArray,size_zeroCells,hz,← ho,← hn]
    rw [← Nat.add_mul,hneed,← Nat.add_mul]; congr 1; omega
  refine ⟨hsize,fun e' he'=>?_,fun e' he' a ha=>?_,?_,fun i e' j a hi hj=>?_⟩
  · rcases List.mem_append.1 he' with h | h
    · exact hlo e' h
    · exact hln e' h
  · rcases List.mem_append.1 he' with h | h
    · exact hco e' h a ha
    · exact hcn e' h a ha
  · rw [hsize,List.length_append,hneed]; exact Nat.mul_le_mul_right _ hcap
  · have hel:e'.length = sz:=by
      rcases List.mem_append.1 (List.mem_of_getElem? hi) with h | h
      · exact hlo e' h
      · exact hln e' h
    have hjl:j < sz:=by rw [← hel]; exact (List.getElem?_eq_some_iff.1 hj).1
    rw [List.getElem?_append] at hi
    split at hi
    · rename_i hlt
      obtain ⟨v,h1,h2⟩:=hvo i e' j a hi hj
      refine ⟨v,?_,h2⟩
      have hlt2:i * sz + j < ov.length:=(List.getElem?_eq_some_iff.1 h1).1
      simp only [arr,Array.append_assoc]
      rw [Array.getElem?_append_left (by simpa using hlt2)]
      simpa using h1
    · rename_i hge
      obtain ⟨v,h1,h2⟩:=hvn _ e' j a hi hj
      refine ⟨v,?_,h2⟩
      have hlt2:(i - olds.length) * sz + j < nv.length:=(List.getElem?_eq_some_iff.1 h1).1
      have e1:i * sz + j = ov.length + ((i - olds.length) * sz + j):=by
        rw [← ho,← Nat.add_assoc,← Nat.add_mul]; congr 2; omega
      simp only [arr,Array.append_assoc]
      rw [e1,Array.getElem?_append_right (by simp),Array.getElem?_append_left (by simp; omega)]
      simpa using h1
theorem fS (hr : Rel g0 X m A S w) {s:AV} {cs:Value} (hs:VR X m A S w s cs) {ts:Array TypeId} {t t' e ty:TypeId} {d':TypeDesc} {i:TypeInfo} (h0:ts[0]? = some t) (h1:ts[1]? = some t')
    (hu:P.underlying t = some (.slice e)) (hu':P.underlying t' = some d') (hd:FQ d' = true) (hi:P.info? e = some i) (hpos:0 < i.size) (hz:(i.zero.map fun z=>z.cells.size) = some i.size)
    {news:List (List AV)} {cx:Value} (hn:(∀ e∈news,e.length = i.size)→Uk P X m A S w i.size news cx) {v:AV} {S1:St} (h:FC i.size i.bytes s news S = some (v,S1)) :
    Ok P g0 X m A S w (Builtin.append_ ts ty #[cs,cx]) v S1:=by
  obtain ⟨zv,hzv,hzs⟩:=Option.map_eq_some_iff.1 hz
  cases news with
  | nil =>
    obtain ⟨n1,vals,n2,n3,n4,n5,n6⟩:=hn (by simp)
    simp only [List.length_nil,Nat.zero_mul] at n2 n1 n3
    have hv0:vals = []:=List.eq_nil_of_length_eq_zero n2
    subst hv0
    have hsl:∃ base len cap,cs = .slice base len cap∧len≤cap:=by
      simp only [FC] at h
      cases hs with
      | rsl0 l fl a cap hfl=>exact ⟨a,0,cap,rfl,Nat.zero_le _⟩
      | rsl l fl es blk off s cap val hA hX hfl hle hlen hce hc hv=>exact ⟨_,_,_,rfl,hle⟩
      | bsl b i n L fl ad cap B hB hL hb=>
        -- a stale slice keeps its form
        by_cases he:B.es.length = L
        · obtain ⟨blk,base,q1,q2,q3,q4,_⟩:=hb he
          exact ⟨_,_,_,rfl,q4⟩
        · exfalso
          simp only [hB] at h
          rw [if_neg (fun hh=>he hh.1)] at h; cases h
      | _=>simp at h
    obtain ⟨base,len,cap,rfl,hle⟩:=hsl
    have hval:v = s∧S1 = S:=by
      simp only [FC] at h
      split at h
      · injection h with h; injection h with h1 h2; exact ⟨h1.symm,h2.symm⟩
      · split at h <;> try (cases h; done)
        split at h <;> try (cases h; done)
        injection h with h; injection h with h1 h2; exact ⟨h1.symm,h2.symm⟩
      · cases h
    obtain ⟨rfl,rfl⟩:=hval
    refine Ok.stay hr (cv:=.slice base len cap) ?_ hs
    have:=Jm (P:=P) (w:=w) (ty:=ty) h0 h1 hu hu' hd hi base len cap 0 cx [] n1 (n3 w (fun _ _ _=>rfl)) (by omega) w (fun a _=>rfl) (fun _=>rfl)
    simpa using this
  | cons ne nr =>
    simp only [FC] at h
    split at h <;> try (cases h; done)
    rename_i hnl
    have hnl':∀ e∈ne::nr,e.length = i.size:=fun e he=>by
      have:=hnl
      simp only [Bool.not_eq_true',Bool.not_eq_false] at this
      have:=List.all_eq_true.1 this e he
      simpa using this
    obtain ⟨n1,vals,n2,n3,n4,n5,n6⟩:=hn hnl'
    obtain ⟨k,hk⟩:∃ k,k = (ne::nr).length:=⟨_,rfl⟩
    have hk0:0 < k:=by rw [hk]; simp
    rw [← hk] at n1 n2 n3 h
    have hrd:=hr.drew
    -- growing from old elements into a new box
    have grow:∀ (base:Option Addr) (len cap:Nat) (olds:List (List AV)) (ov:List Value),cs = .slice base len cap→olds.length = len→ov.length = len * i.size→len + k≤9223372036854775807→(len + k) * i.bytes≤140737488355328→¬ len + k≤cap →
        (Builtin.firstCells i.size len (.slice base len cap)).run P w.drew = .ok ov.toArray w.drew→(∀ e∈olds,e.length = i.size)→(∀ e∈olds,∀ a∈e,Bv a = true) →
        (∀ (i':Nat) (e:List AV) (j:Nat) (a:AV),olds[i']? = some e→e[j]? = some a→∃ v,ov[i' * i.size + j]? = some v∧VR X m A S w a v) →
        ∃ capn arr,(Builtin.append_ ts ty #[cs,cx]).run P w = .ok (.slice (some ⟨w.heap.size,0,none⟩) (len + k) capn) (w.drew.alloc (.cells arr e))∧len + k≤capn∧arr.size = capn * i.size ∧
          (∀ e'∈olds++ne::nr,e'.length = i.size)∧(∀ e'∈olds++ne::nr,∀ a∈e',Bv a = true)∧(olds++ne::nr).length * i.size≤arr.size ∧
          ∀ (i':Nat) (e:List AV) (j:Nat) (a:AV),(olds++ne::nr)[i']? = some e→e[j]? = some a→∃ v,arr[i' * i.size + j]? = some v∧VR X m A S w.drew a v:=by
      rintro base len cap olds ov rfl hol hov h63 hby hg hfo hlo hco hvo
      have hrun:=OW (P:=P) (w:=w) (ty:=ty) h0 h1 hu hu' hd hi hzv base len cap k cx ov vals n1 hfo (n3 w.drew (fun _ _ _=>rfl)) hg h63 (.inr h63) (growslice_fits (by omega) hby)
      have hcap:=grownCap_ge w (len + k) cap e
      obtain ⟨a1,a2,a3,a4,a5⟩:=Zh hrd.1 (need:=len + k) (cap:=grownCap w (len + k) cap e) (olds:=olds) (news:=ne::nr) (ov:=ov) (nv:=vals) (z:=zv.cells) (e:=e) hpos (by rw [hol,hov]) (by rw [n2,hk]) (by rw [hol,hk]) hcap hzs hlo hnl' hco n6
        (fun i' e' j a q1 q2=>by obtain ⟨v,r1,r2⟩:=hvo i' e' j a q1 q2; exact ⟨v,r1,r2.mono hr hrd.2⟩)
        (fun i' e' j a q1 q2=>by obtain ⟨v,r1,r2⟩:=n5 i' e' j a q1 q2; exact ⟨v,r1,r2.mono hr hrd.2⟩)
      exact ⟨_,_,hrun,hcap,a1,a2,a3,a4,a5⟩
    -- the new box as a value
    have fin:∀ (B:Box) (len capn:Nat) (arr:Array Value),B.sz = i.size→B.es.length = len + k→(∀ e'∈B.es,e'.length = i.size)→(∀ e'∈B.es,∀ a∈e',Bv a = true)→(B.pl = true→∀ e'∈B.es,∀ a∈e',AC a = true) →
        B.es.length * i.size≤arr.size→arr.size = capn * i.size→len + k≤capn →
        (∀ (i':Nat) (e:List AV) (j:Nat) (a:AV),B.es[i']? = some e→e[j]? = some a→∃ v,arr[i' * i.size + j]? = some v∧VR X m A S w.drew a v) →
        (Builtin.append_ ts ty #[cs,cx]).run P w = .ok (.slice (some ⟨w.heap.size,0,none⟩) (len + k) capn) (w.drew.alloc (.cells arr e)) →
        Ok P g0 X m A S w (Builtin.append_ ts ty #[cs,cx]) (.bsl S.length 0 (len + k) (len + k) false) (S++[B]):=by
      intro B len capn arr hsz hbl hlo hco hpl hle has hcap hv hrun
      obtain ⟨k1,k2⟩:=hrd.1.newBox B arr e (by rw [hsz]; exact hlo) hco (by rw [hsz]; exact hpos) hpl (by rw [hsz]; exact hle) (by rw [hsz]; exact hv)
      refine ⟨_,A,_,_,hrun,k1,hrd.2.trans k2,.bsl _ _ _ _ _ _ _ B (by simp) (by omega) (fun _=>⟨w.heap.size,0,by unfold BB; rw [if_pos rfl]; rfl,by omega,fun _=>by simp,hcap,(fun h=>by cases h),fun _=>by omega,fun q hq=>?_⟩)⟩
      have e1:(w.drew.alloc (.cells arr e)).shape? w.heap.size = some (e,arr.size):=by
        have:=heap_alloc_new w.drew (.cells arr e)
        simp only [World.shape?]
        rw [show w.heap.size = w.drew.heap.size from rfl,this]
      rw [e1] at hq; injection hq with hq; subst hq
      rw [hsz]; simp only [Nat.zero_add]; omega
    have hb63:∀ q,(q + k) * (i.bytes + 1)≤17592186044416→q + k≤9223372036854775807∧(q + k) * i.bytes≤140737488355328:=by
      intro q hq
      have e1:(q + k) * 1≤(q + k) * (i.bytes + 1):=Nat.mul_le_mul_left _ (by omega)
      have e2:(q + k) * i.bytes≤(q + k) * (i.bytes + 1):=Nat.mul_le_mul_left _ (by omega)
      exact ⟨by omega,by omega⟩
    cases hs with
    | rsl0 l fl a cap hfl=>
      dsimp only at h
      split at h <;> try (cases h; done)
      rename_i hc
      obtain ⟨hc1,hc2,hc3⟩:=hc
      have hcap:cap = 0:=hfl hc1
      subst hcap
      injection h with h; injection h with e1 e2
      simp only [List.length_nil,Nat.zero_add,List.nil_append] at e1 e2 hc3
      obtain ⟨b1,b2⟩:=hb63 0 (by simpa using hc3)
      obtain ⟨capn,arr,q1,q2,q3,q4,q5,q6,q7⟩:=grow a 0 0 [] [] rfl rfl (by simp) b1 b2 (by omega) (by cases a <;> simp [Builtin.firstCells,loadCells,loadCellsFrom]) (by simp) (by simp) (by simp)
      simp only [List.nil_append] at q4 q5 q6 q7
      have:=fin ⟨i.size,ne::nr,(ne::nr).all (·.all AC)⟩ 0 capn arr rfl (by simp [hk]) q4 q5 (fun hp e' he' a ha=>List.all_eq_true.1 (List.all_eq_true.1 hp e' he') a ha) q6 q3 q2 q7 q1
      rw [← e1,← e2]
      simpa using this
    | rsl l fl es blk off s cap val hA hX hfl hle hlen hce hc hv=>
      dsimp only at h
      split at h <;> try (cases h; done)
      rename_i hcc
      obtain ⟨hc1,hc2,hc3⟩:=hcc
      have hcap:cap = es.length:=hfl hc1
      injection h with h; injection h with e1 e2
      obtain ⟨b1,b2⟩:=hb63 es.length hc3
      have hol:∀ e∈es,e.length = i.size:=fun e he=>by simpa using List.all_eq_true.1 hc2 e he
      have hN:=Ni (P:=P) hr (.rsl l fl es blk off s cap val hA hX hfl hle hlen hce hc hv) hpos (news:=es) (by simp [BU]) hol
      obtain ⟨o1,ov,o2,o3,o4,o5,o6⟩:=hN
      obtain ⟨capn,arr,q1,q2,q3,q4,q5,q6,q7⟩:=grow _ es.length cap es ov rfl rfl o2 b1 b2 (by omega) (o3 w.drew (fun _ _ _=>rfl)) hol o6 o5
      have:=fin ⟨i.size,es++ne::nr,(es++ne::nr).all (·.all AC)⟩ es.length capn arr rfl (by simp [hk]) q4 q5 (fun hp e' he' a ha=>List.all_eq_true.1 (List.all_eq_true.1 hp e' he') a ha) q6 q3 q2 q7 q1
      rw [← e1,← e2]
      exact this
    | bsl b i0 n L fl ad cap B hB hL hb=>
      simp only [hB] at h
      split at h <;> try (cases h; done)
      rename_i hcc
      obtain ⟨c0,csz,cin,cby⟩:=hcc
      obtain ⟨blk,base,p1,p2,had,p4,p5,p6,p7⟩:=hb c0
      obtain ⟨B1,hB1,hb1⟩:=hr.box b blk base p1
      rw [hB] at hB1; injection hB1 with hB1; subst hB1
      obtain ⟨arr0,ty0,g1,g2,g3⟩:=hb1.blk
      have hVR:VR X m A S w (.bsl b i0 n L fl) (.slice (some ad) n cap):=.bsl b i0 n L fl ad cap B hB hL hb
      have hel:BU S (.bsl b i0 n L fl) = some ((B.es.drop i0).take n):=by simp [BU,hB,c0]
      have hoel:∀ e∈(B.es.drop i0).take n,e.length = i.size:=fun e he=>by rw [← csz]; exact hb1.len e (List.mem_drop_take he)
      have holn:((B.es.drop i0).take n).length = n:=by simp; omega
      obtain ⟨o1,ov,o2,o3,o4,o5,o6⟩:=Ni (P:=P) hr hVR hpos hel hoel
      rw [holn] at o1 o2 o3
      have hbn:n + k≤9223372036854775807∧(n + k) * i.bytes≤140737488355328:=by
        have e1:(n + k) * (i.bytes + 1)≤(L + k) * (i.bytes + 1):=Nat.mul_le_mul_right _ (by omega)
        exact hb63 n (by omega)
      -- in place
      have place:n + k≤cap→∃ w',(Builtin.append_ ts ty #[.slice (some ad) n cap,cx]).run P w = .ok (.slice (some ad) (n + k) cap) w'∧ad = ⟨blk,base + i0 * i.size,none⟩ ∧
          base + (i0 + n + k) * i.size≤arr0.size ∧
          w' = w.setRow blk (arr0.toList.take (base + (i0 + n) * i.size)++vals++arr0.toList.drop (base + (i0 + n) * i.size + vals.length)).toArray:=by
        intro hroom
        have had:=had (by omega)
        rw [csz] at had
        subst had
        have hsh:=p7 (ty0,arr0.size) (by simp [World.shape?,g1])
        rw [csz] at hsh
        dsimp only at hsh
        have hm:(i0 + n + k) * i.size≤(i0 + cap) * i.size:=Nat.mul_le_mul_right _ (by omega)
        have hm2:(i0 + n + k) * i.size = (i0 + n) * i.size + k * i.size:=by rw [Nat.add_mul]
        have hst:=run_storeCells_at P blk (base + (i0 + n) * i.size) ty0 vals 0 arr0 w g1 (by rw [n2]; omega) n4
        simp only [Nat.add_zero] at hst
        refine ⟨_,Jm (P:=P) (w:=w) (ty:=ty) h0 h1 hu hu' hd hi _ n cap k cx vals n1 (n3 w (fun _ _ _=>rfl)) hroom _ (fun a ha=>?_) (by simp),rfl,by omega,rfl⟩
        injection ha with ha; subst ha
        rw [Addr.add_lit,show base + i0 * i.size + n * i.size = base + (i0 + n) * i.size by rw [Nat.add_mul]; omega]
        exact hst
      -- what stands there then
      have hread:∀ q,base + (i0 + n) * i.size + vals.length≤arr0.size →
          (arr0.toList.take (base + (i0 + n) * i.size)++vals++arr0.toList.drop (base + (i0 + n) * i.size + vals.length)).toArray[q]? =
          if base + (i0 + n) * i.size≤q∧q < base + (i0 + n) * i.size + vals.length then vals[q - (base + (i0 + n) * i.size)]? else arr0[q]?:=by
        intro q hq
        simp only [List.getElem?_toArray,List.append_assoc]
        rw [List.getElem?_append,List.getElem?_append,List.getElem?_take,List.getElem?_drop]
        simp only [List.length_take,Array.length_toList]
        have e3:min (base + (i0 + n) * i.size) arr0.size = base + (i0 + n) * i.size:=by omega
        rw [e3]
        by_cases q1:q < base + (i0 + n) * i.size
        · rw [if_pos q1,if_pos q1,if_neg (by omega)]; simp
        · rw [if_neg q1]
          by_cases q2:q < base + (i0 + n) * i.size + vals.length
          · rw [if_pos (by omega),if_pos (by omega)]
          · rw [if_neg (by omega),if_neg (by omega)]
            simp only [Array.getElem?_toList]
            congr 1; omega
      split at h
      · -- a full slice: always into a new box
        rename_i hfl
        injection h with h; injection h with e1 e2
        have hcapn:=p5 hfl
        obtain ⟨capn,arr,q1,q2,q3,q4,q5,q6,q7⟩:=grow (some ad) n cap _ ov rfl holn o2 hbn.1 hbn.2 (by omega) (o3 w.drew (fun _ _ _=>rfl)) hoel o6 o5
        have := fin ⟨i.size,(B.es.drop i0).take n++ne::nr,B.pl && (ne::nr).all (·.all AC)⟩ n capn arr rfl (by simp [hk] at holn ⊢; omega) q4 q5 (fun hp e' he' a ha=>by
            simp only [Bool.and_eq_true] at hp
            rcases List.mem_append.1 he' with hh | hh
            · exact hb1.pl hp.1 e' (List.mem_drop_take hh) a ha
            · exact List.all_eq_true.1 (List.all_eq_true.1 hp.2 e' hh) a ha) q6 q3 q2 q7 q1
        rw [← e1,← e2]; exact this
      · split at h
        · rename_i hfl hend
          split at h <;> try (cases h; done)
          rename_i hi0
          subst hi0
          injection h with h; injection h with e1 e2
          simp only [Nat.zero_add] at hend place hread p2
          subst hend
          have hBn:B.es.length = n:=c0
          have hall:(B.es.drop 0).take n = B.es:=by simp [← hBn]
          rw [hall] at o5 o6 hoel
          by_cases hroom:n + k≤cap
          · obtain ⟨w',r1,r2,r3,r4⟩:=place hroom
            have hvl:vals.length = k * i.size:=n2
            have hm2:(n + k) * i.size = n * i.size + k * i.size:=Nat.add_mul _ _ _
            obtain ⟨k1,k2⟩:=hr.setBox (B:=B) (B':={ B with es:=B.es++ne::nr,pl:=B.pl && (ne::nr).all (·.all AC) }) p1 hB g1
              (arr':=(arr0.toList.take (base + n * i.size)++vals++arr0.toList.drop (base + n * i.size + vals.length)).toArray)
              (by simp; omega) rfl (by simp) (fun e' he'=>by
                rw [csz]
                rcases List.mem_append.1 he' with hh | hh
                · exact hoel e' hh
                · exact hnl' e' hh) (fun e' he' a ha=>by
                rcases List.mem_append.1 he' with hh | hh
                · exact o6 e' hh a ha
                · exact n6 e' hh a ha) (fun hp e' he' a ha=>by
                simp only [Bool.and_eq_true] at hp
                rcases List.mem_append.1 he' with hh | hh
                · exact hb1.pl hp.1 e' hh a ha
                · exact List.all_eq_true.1 (List.all_eq_true.1 hp.2 e' hh) a ha)
              (by rw [csz]; simp only [List.length_append,hBn,← hk]; omega)
              (fun i' e' j a hi' hj=>by
                rw [csz,hread _ (by omega)]
                have hel':e'.length = i.size:=by
                  rcases List.mem_append.1 (List.mem_of_getElem? hi') with hh | hh
                  · exact hoel e' hh
                  · exact hnl' e' hh
                have hjl:j < i.size:=by rw [← hel']; exact (List.getElem?_eq_some_iff.1 hj).1
                have hil:i' < n + k:=by have:=(List.getElem?_eq_some_iff.1 hi').1; simpa [hBn,← hk] using this
                rw [List.getElem?_append] at hi'
                split at hi'
                · rename_i hlt
                  obtain ⟨v,s1,s2⟩:=g3 i' e' j a hi' hj
                  refine ⟨v,?_,s2⟩
                  have hm3:=Nat.mul_le_mul_right i.size (show i' + 1≤n by omega)
                  rw [Nat.add_mul,Nat.one_mul] at hm3
                  rw [if_neg (by omega),← csz]; exact s1
                · rename_i hge
                  obtain ⟨v,s1,s2⟩:=n5 _ e' j a hi' hj
                  refine ⟨v,?_,s2⟩
                  have hsub:i' * i.size = n * i.size + (i' - n) * i.size:=by rw [← Nat.add_mul]; congr 1; omega
                  have hm3:=Nat.mul_le_mul_right i.size (show (i' - n) + 1≤k by omega)
                  rw [Nat.add_mul,Nat.one_mul] at hm3
                  rw [if_pos (by omega),show base + (i' * i.size + j) - (base + n * i.size) = (i' - B.es.length) * i.size + j by rw [hBn]; omega]
                  exact s1)
            rw [← e1,← e2]
            refine ⟨m,A,w',_,r1,by rw [r4]; exact k1,by rw [r4]; exact k2,.bsl _ _ _ _ _ _ _ { B with es:=B.es++ne::nr,pl:=B.pl && (ne::nr).all (·.all AC) } ?_ (by simp [hBn,← hk]) (fun _=>⟨blk,base,p1,by omega,fun _=>by rw [r2,csz],hroom,(fun h=>by cases h),fun _=>by omega,fun q hq=>?_⟩)⟩
            · have hlt:=(List.getElem?_eq_some_iff.1 hB).1
              simp [hlt]
            · rw [r4] at hq
              have hsh:(w.setRow blk (arr0.toList.take (base + n * i.size)++vals++arr0.toList.drop (base + n * i.size + vals.length)).toArray).shape? blk = some (ty0,arr0.size):=by
                simp only [World.shape?]
                rw [setRow_heap w blk arr0 _ ty0 _ g1]
                simp; omega
              rw [hsh] at hq; injection hq with hq; subst hq
              have:=p7 (ty0,arr0.size) (by simp [World.shape?,g1])
              simpa using this
          · obtain ⟨capn,arr,q1,q2,q3,q4,q5,q6,q7⟩:=grow (some ad) n cap B.es ov rfl hBn o2 hbn.1 hbn.2 hroom (o3 w.drew (fun _ _ _=>rfl)) hoel o6 o5
            obtain ⟨k1,k2⟩:=hrd.1.moveBox (B:=B) (B':={ B with es:=B.es++ne::nr,pl:=B.pl && (ne::nr).all (·.all AC) }) arr e hB (by rw [csz]; exact hpos) rfl (by dsimp only; rw [List.length_append,← hk]; omega) (by rw [csz]; exact q4) q5 (fun hp e' he' a ha=>by
                simp only [Bool.and_eq_true] at hp
                rcases List.mem_append.1 he' with hh | hh
                · exact hb1.pl hp.1 e' hh a ha
                · exact List.all_eq_true.1 (List.all_eq_true.1 hp.2 e' hh) a ha) (by rw [csz]; exact q6) (by rw [csz]; exact q7)
            rw [← e1,← e2]
            refine ⟨_,A,_,_,q1,k1,hrd.2.trans k2,.bsl _ _ _ _ _ _ _ { B with es:=B.es++ne::nr,pl:=B.pl && (ne::nr).all (·.all AC) } ?_ (by simp [hBn,← hk]) (fun _=>⟨w.heap.size,0,by unfold BB; rw [if_pos rfl]; rfl,by omega,fun _=>by simp,q2,(fun h=>by cases h),fun _=>by omega,fun q hq=>?_⟩)⟩
            · have hlt:=(List.getElem?_eq_some_iff.1 hB).1
              simp [hlt]
            · have e1:(w.drew.alloc (.cells arr e)).shape? w.heap.size = some (e,arr.size):=by
                have:=heap_alloc_new w.drew (.cells arr e)
                simp only [World.shape?]
                rw [show w.heap.size = w.drew.heap.size from rfl,this]
              rw [e1] at hq; injection hq with hq; subst hq
              dsimp only
              rw [csz]; simp only [Nat.zero_add]; omega
        · split at h <;> try (cases h; done)
          rename_i hfl hend hin
          injection h with h; injection h with e1 e2
          have hfl':fl = false:=by simpa using hfl
          have hroom:n + k≤cap:=by have:=p6 hfl'; omega
          obtain ⟨w',r1,r2,r3,r4⟩:=place hroom
          have hvl:vals.length = k * i.size:=n2
          have hm2:(i0 + n + k) * i.size = (i0 + n) * i.size + k * i.size:=Nat.add_mul _ _ _
          have hlenB:(B.es.take (i0 + n)++((ne::nr)++B.es.drop (i0 + n + k))).length = B.es.length:=by
            rw [List.length_append,List.length_append,List.length_take,List.length_drop,← hk]; omega
          have hmem:∀ e'∈B.es.take (i0 + n)++((ne::nr)++B.es.drop (i0 + n + k)),e'∈B.es∨e'∈ne::nr:=by
            intro e' he'
            rcases List.mem_append.1 he' with hh | hh
            · exact .inl (List.mem_of_mem_take hh)
            · rcases List.mem_append.1 hh with hh | hh
              · exact .inr hh
              · exact .inl (List.mem_of_mem_drop hh)
          obtain ⟨k1, k2⟩:=hr.setBox (B:=B) (B':={ B with es:=B.es.take (i0 + n)++((ne::nr)++B.es.drop (i0 + n + k)),pl:=B.pl && (ne::nr).all (·.all AC) }) p1 hB g1
            (arr':=(arr0.toList.take (base + (i0 + n) * i.size)++vals++arr0.toList.drop (base + (i0 + n) * i.size + vals.length)).toArray)
            (by simp; omega) rfl (by rw [hlenB]; exact Nat.le_refl _) (fun e' he'=>by
              rw [csz]
              rcases hmem e' he' with hh | hh
              · rw [← csz]; exact hb1.len e' hh
              · exact hnl' e' hh) (fun e' he' a ha=>by
              rcases hmem e' he' with hh | hh
              · exact hb1.cell e' hh a ha
              · exact n6 e' hh a ha) (fun hp e' he' a ha=>by
              simp only [Bool.and_eq_true] at hp
              rcases hmem e' he' with hh | hh
              · exact hb1.pl hp.1 e' hh a ha
              · exact List.all_eq_true.1 (List.all_eq_true.1 hp.2 e' hh) a ha)
            (by rw [hlenB]; exact g2)
            (fun i' e' j a hi' hj=>by
              rw [csz,hread _ (by omega)]
              have hel':e'.length = i.size:=by
                rcases hmem e' (List.mem_of_getElem? hi') with hh | hh
                · rw [← csz]; exact hb1.len e' hh
                · exact hnl' e' hh
              have hjl:j < i.size:=by rw [← hel']; exact (List.getElem?_eq_some_iff.1 hj).1
              have keepOld:∀ (_:B.es[i']? = some e') (_:¬ (i0 + n≤i'∧i' < i0 + n + k)),∃ v,(if base + (i0 + n) * i.size≤base + (i' * i.size + j)∧base + (i' * i.size + j) < base + (i0 + n) * i.size + vals.length then vals[base + (i' * i.size + j) - (base + (i0 + n) * i.size)]? else arr0[base + (i' * i.size + j)]?) = some v∧VR X m A S w a v:=by
                intro hB' hout
                obtain ⟨v,s1,s2⟩:=g3 i' e' j a hB' hj
                refine ⟨v,?_,s2⟩
                rw [if_neg ?_,← csz]
                · exact s1
                · rintro ⟨u1,u2⟩
                  rcases Nat.lt_or_ge i' (i0 + n) with hlt | hge
                  · have hm3:=Nat.mul_le_mul_right i.size (show i' + 1≤i0 + n by omega)
                    rw [Nat.add_mul,Nat.one_mul] at hm3; omega
                  · have hm3:=Nat.mul_le_mul_right i.size (show i0 + n + k≤i' by omega)
                    omega
              rw [List.getElem?_append,List.getElem?_append,List.getElem?_take,List.getElem?_drop] at hi'
              have e3:(B.es.take (i0 + n)).length = i0 + n:=by rw [List.length_take]; omega
              rw [e3,← hk] at hi'
              by_cases u1:i' < i0 + n
              · rw [if_pos u1,if_pos u1] at hi'
                exact keepOld hi' (by omega)
              · rw [if_neg u1] at hi'
                by_cases u2:i' - (i0 + n) < k
                · rw [if_pos u2] at hi'
                  obtain ⟨v,s1,s2⟩:=n5 _ e' j a hi' hj
                  refine ⟨v,?_,s2⟩
                  have hsub:i' * i.size = (i0 + n) * i.size + (i' - (i0 + n)) * i.size:=by rw [← Nat.add_mul]; congr 1; omega
                  have hm3:=Nat.mul_le_mul_right i.size (show (i' - (i0 + n)) + 1≤k by omega)
                  rw [Nat.add_mul,Nat.one_mul] at hm3
                  rw [if_pos (by omega),show base + (i' * i.size + j) - (base + (i0 + n) * i.size) = (i' - (i0 + n)) * i.size + j by omega]
                  exact s1
                · rw [if_neg u2] at hi'
                  rw [show i0 + n + k + (i' - (i0 + n) - k) = i' by omega] at hi'
                  exact keepOld hi' (by omega))
          rw [← e1,← e2]
          refine ⟨m,A,w',_,r1,by rw [r4]; exact k1,by rw [r4]; exact k2,.bsl _ _ _ _ _ _ _ { B with es:=B.es.take (i0 + n)++((ne::nr)++B.es.drop (i0 + n + k)),pl:=B.pl && (ne::nr).all (·.all AC) } ?_ (by rw [hlenB]; exact hL) (fun _=>⟨blk,base,p1,by omega,fun _=>by rw [r2,csz],hroom,(fun h=>by cases h),fun _=>p6 hfl',fun q hq=>?_⟩)⟩
          · have hlt:=(List.getElem?_eq_some_iff.1 hB).1
            rw [List.getElem?_set_self hlt]
          · rw [r4] at hq
            have hsh:(w.setRow blk (arr0.toList.take (base + (i0 + n) * i.size)++vals++arr0.toList.drop (base + (i0 + n) * i.size + vals.length)).toArray).shape? blk = some (ty0,arr0.size):=by
              simp only [World.shape?]
              rw [setRow_heap w blk arr0 _ ty0 _ g1]
              simp; omega
            rw [hsh] at hq; injection hq with hq; subst hq
            exact p7 (ty0,arr0.size) (by simp [World.shape?,g1])
    | _=>simp at h
end Go.Rf
