/- What abstract values mean in a world; frames. -/
import Derived.Test.YthbiabieiopobaaGreatDoorRf1
import Derived.Laws.AppendOwn
import Derived.Laws.OwnMore
set_option linter.unusedVariables false
set_option linter.unusedSimpArgs false
namespace Go.Rf
open Go
abbrev Bd:=Nat→Option (Nat×Nat)
def rng (m:Bd) (c:Nat):Prop:=∃ b o,m b = some (c,o)
inductive VR (X:Nat→Prop) (m:Bd) (A:Nat→Prop) (S:St) (w:World):AV→Value→Prop where
 | int (k n):VR X m A S w (.int k n) (.int k n)
 | bool (b):VR X m A S w (.bool b) (.bool b)
 | str (s):VR X m A S w (.str s) (.string s)
 | nilp:VR X m A S w .nilp (.pointer none)
 | nilf:VR X m A S w .nilf .nilFunc
 | nili:VR X m A S w .nili .nilIface
 | errv (t v):VR X m A S w .errv (.iface t v)
 | ub (b):VR X m A S w .ub (.bool b)
 | dead (v):v.oneCell' = true→VR X m A S w .dead v
 | non (v):VR X m A S w .non v
 | agg (cs:List AV) (vs:Array Value):cs.length = vs.size→(∀ a∈cs,Bv a = true)→(∀ (i:Nat) (a:AV) (v:Value),cs[i]? = some a→vs[i]? = some v→VR X m A S w a v)→VR X m A S w (.agg cs) (.agg vs)
 | tup (cs:List AV) (vs:Array Value):cs.length = vs.size→(∀ (i:Nat) (a:AV) (v:Value),cs[i]? = some a→vs[i]? = some v→VR X m A S w a v)→VR X m A S w (.tup cs) (.tuple vs)
 | fn (f:FuncId) (cs:List AV) (vs:Array Value):cs.length = vs.size→(∀ (i:Nat) (a:AV) (v:Value),cs[i]? = some a→vs[i]? = some v→VR X m A S w a v)→VR X m A S w (.fn f cs) (.func (.func f) #[] vs)
 | rsl0 (l fl) (a:Option Addr) (cap:Nat):(fl = true→cap = 0)→VR X m A S w (.rsl l fl []) (.slice a 0 cap)
 | rsl (l fl es) (blk off s cap:Nat) (val:Nat→Nat→Value):A blk→(l = false→¬ X blk)→(fl = true→cap = es.length)→es.length≤cap →
   (∀ (i:Nat) (e:List AV),es[i]? = some e→e.length = s)→(∀ (i:Nat) (e:List AV),es[i]? = some e→∀ a∈e,CO l a = true) →
   (∀ i j,i < es.length→j < s→w.cell? ⟨blk,off + (i * s + j),none⟩ = some (val i j)) →
   (∀ (i:Nat) (e:List AV) (j:Nat) (a:AV),es[i]? = some e→e[j]? = some a→VR X m A S w a (val i j)) →
   VR X m A S w (.rsl l fl es) (.slice (some ⟨blk,off,none⟩) es.length cap)
 | rp (l cs) (blk off:Nat) (val:Nat→Value):A blk→(l = false→¬ X blk)→(∀ a∈cs,CO l a = true) →
   (∀ j,j < cs.length→w.cell? ⟨blk,off + j,none⟩ = some (val j)) →
   (∀ (j:Nat) (a:AV),cs[j]? = some a→VR X m A S w a (val j)) →
   VR X m A S w (.rp l cs) (.pointer (some ⟨blk,off,none⟩))
 | bp (b i o n L:Nat) (ad:Addr) (B:Box):S[b]? = some B→L≤B.es.length →
   (B.es.length = L→∃ blk base,m b = some (blk,base)∧i < L∧o + n≤B.sz∧ad = ⟨blk,base + (i * B.sz + o),none⟩) →
   VR X m A S w (.bp b i o n L) (.pointer (some ad))
 | bsl (b i n L:Nat) (fl:Bool) (ad:Addr) (cap:Nat) (B:Box):S[b]? = some B→L≤B.es.length →
   (B.es.length = L→∃ blk base,m b = some (blk,base)∧i + n≤L∧(cap≠0→ad = ⟨blk,base + i * B.sz,none⟩)∧n≤cap∧(fl = true→cap = n)∧(fl = false→L≤i + cap) ∧
    (∀ q,w.shape? blk = some q→base + (i + cap) * B.sz≤q.2)) →
   VR X m A S w (.bsl b i n L fl) (.slice (some ad) n cap)
theorem H3 {l:Bool} {a:AV} (h:CO l a = true):Bv a = true:=by simp [CO] at h; exact h.1
def VRs (X:Nat→Prop) (m:Bd) (A:Nat→Prop) (S:St) (w:World) (as_:List AV) (vs:Array Value):Prop:=
 as_.length = vs.size∧∀ (i:Nat) (a:AV) (v:Value),as_[i]? = some a→vs[i]? = some v→VR X m A S w a v
structure f7 (X:Nat→Prop) (m:Bd) (A:Nat→Prop) (S:St) (w:World) (B:Box) (blk base:Nat):Prop where
 len:∀ e∈B.es,e.length = B.sz
 cell:∀ e∈B.es,∀ a∈e,Bv a = true
 pos:0 < B.sz
 pl:B.pl = true→∀ e∈B.es,∀ a∈e,AC a = true
 blk:∃ arr ty,w.heap[blk]? = some (.cells arr ty (0,0))∧base + B.es.length * B.sz≤arr.size ∧
  ∀ (i:Nat) (e:List AV) (j:Nat) (a:AV),B.es[i]? = some e→e[j]? = some a→∃ v,arr[base + (i * B.sz + j)]? = some v∧VR X m A S w a v
structure Rel (g0:Nat) (X:Nat→Prop) (m:Bd) (A:Nat→Prop) (S:St) (w:World):Prop where
 box:∀ b blk base,m b = some (blk,base)→∃ B,S[b]? = some B∧f7 X m A S w B blk base
 inj:∀ b b' blk o o',m b = some (blk,o)→m b' = some (blk,o')→b = b'
 dis:∀ b blk o,m b = some (blk,o)→¬ A blk∧¬ X blk∧g0≤blk∧blk < w.heap.size
 alt:∀ c,A c→c < w.heap.size
 xlt:∀ c,X c→c < w.heap.size
 glt:g0≤w.heap.size
structure Kp (M:Nat→Prop) (w w':World):Prop where
 os:w'.os = w.os
 tape:w'.tape = w.tape
 output:w'.output = w.output
 size:w.heap.size≤w'.heap.size
 block:∀ c,c < w.heap.size→¬ M c→w'.heap[c]? = w.heap[c]?
 shape:∀ c,c < w.heap.size→w'.shape? c = w.shape? c
structure Ext (m:Bd) (A:Nat→Prop) (S:St) (w:World) (m':Bd) (A':Nat→Prop) (S':St) (w':World):Prop where
 kp:Kp (rng m) w w'
 aa:∀ c,A c→A' c
 an:∀ c,A' c→A c∨w.heap.size≤c
 mn:∀ b c o,m' b = some (c,o)→m b = some (c,o)∨w.heap.size≤c
 len:S.length≤S'.length
 st:∀ b B,S[b]? = some B→∃ B',S'[b]? = some B'∧B'.sz = B.sz∧B.es.length≤B'.es.length∧(B'.es.length = B.es.length→m' b = m b)
theorem Kp.refl (M:Nat→Prop) (w:World):Kp M w w:=⟨rfl,rfl,rfl,Nat.le_refl _,fun _ _ _=>rfl,fun _ _=>rfl⟩
theorem Ext.refl (m:Bd) (A:Nat→Prop) (S:St) (w:World):Ext m A S w m A S w:=
 ⟨Kp.refl _ _,fun _ h=>h,fun _ h=>.inl h,fun _ _ _ h=>.inl h,Nat.le_refl _,fun _ B h=>⟨B,h,rfl,Nat.le_refl _,fun _=>rfl⟩⟩
theorem Ext.trans {m m1 m2:Bd} {A A1 A2:Nat→Prop} {S S1 S2:St} {w w1 w2:World} (h:Ext m A S w m1 A1 S1 w1) (k:Ext m1 A1 S1 w1 m2 A2 S2 w2):Ext m A S w m2 A2 S2 w2:=by
 refine ⟨⟨k.kp.os.trans h.kp.os,k.kp.tape.trans h.kp.tape,k.kp.output.trans h.kp.output,Nat.le_trans h.kp.size k.kp.size,?_,?_⟩,fun c hc=>k.aa c (h.aa c hc),?_,?_,Nat.le_trans h.len k.len,?_⟩
 ·intro c hc hM
  rw [k.kp.block c (Nat.lt_of_lt_of_le hc h.kp.size) ?_,h.kp.block c hc hM]
  rintro ⟨b,o,hb⟩
  rcases h.mn b c o hb with h1 | h1
  ·exact hM ⟨b,o,h1⟩
  ·omega
 ·intro c hc
  rw [k.kp.shape c (Nat.lt_of_lt_of_le hc h.kp.size),h.kp.shape c hc]
 ·intro c hc
  rcases k.an c hc with h1 | h1
  ·exact h.an c h1
  ·exact .inr (Nat.le_trans h.kp.size h1)
 ·intro b c o hb
  rcases k.mn b c o hb with h1 | h1
  ·exact h.mn b c o h1
  ·exact .inr (Nat.le_trans h.kp.size h1)
 ·intro b B hB
  obtain ⟨B1,h1,hs1,hl1,hm1⟩:=h.st b B hB
  obtain ⟨B2,h2,hs2,hl2,hm2⟩:=k.st b B1 h1
  refine ⟨B2,h2,hs2.trans hs1,Nat.le_trans hl1 hl2,fun e=>?_⟩
  exact (hm2 (by omega)).trans (hm1 (by omega))
theorem VR.mono {g0:Nat} {X:Nat→Prop} {m m':Bd} {A A':Nat→Prop} {S S':St} {w w':World} (hr:Rel g0 X m A S w) (he:Ext m A S w m' A' S' w')
  {a:AV} {v:Value} (h:VR X m A S w a v):VR X m' A' S' w' a v:=by
 have hcell:∀ blk o,A blk→w'.cell? ⟨blk,o,none⟩ = w.cell? ⟨blk,o,none⟩:=fun blk o hA=>by
  have hb:=he.kp.block blk (hr.alt blk hA) (fun ⟨b,o,hb⟩=>(hr.dis b blk o hb).1 hA)
  simp [World.cell?,hb]
 induction h with
 | int k n=>exact .int k n
 | bool b=>exact .bool b
 | str s=>exact .str s
 | nilp=>exact .nilp
 | nilf=>exact .nilf
 | nili=>exact .nili
 | errv t v=>exact .errv t v
 | ub b=>exact .ub b
 | dead v h=>exact .dead v h
 | non v=>exact .non v
 | agg cs vs hl hc _ ih=>exact .agg cs vs hl hc ih
 | tup cs vs hl _ ih=>exact .tup cs vs hl ih
 | fn f cs vs hl _ ih=>exact .fn f cs vs hl ih
 | rsl0 l fl a cap h=>exact .rsl0 l fl a cap h
 | rsl l fl es blk off s cap val hA hX hfl hle hlen hce hc _ ih=>
  exact .rsl l fl es blk off s cap val (he.aa blk hA) hX hfl hle hlen hce (fun i j hi hj=>(hcell blk _ hA).trans (hc i j hi hj)) ih
 | rp l cs blk off val hA hX hce hc _ ih=>
  exact .rp l cs blk off val (he.aa blk hA) hX hce (fun j hj=>(hcell blk _ hA).trans (hc j hj)) ih
 | bp b i o n L ad B hB hL h=>
  obtain ⟨B',hB',hs,hl,hm⟩:=he.st b B hB
  refine .bp b i o n L ad B' hB' (by omega) (fun e=>?_)
  have e1:B.es.length = L:=by omega
  obtain ⟨blk,base,h1,h2,h3,h4⟩:=h e1
  exact ⟨blk,base,(hm (by omega)).trans h1,h2,by rw [hs]; exact h3,by rw [hs]; exact h4⟩
 | bsl b i n L fl ad cap B hB hL h=>
  obtain ⟨B',hB',hs,hl,hm⟩:=he.st b B hB
  refine .bsl b i n L fl ad cap B' hB' (by omega) (fun e=>?_)
  have e1:B.es.length = L:=by omega
  obtain ⟨blk,base,h1,h2,h3,h4,h5,h6,h7⟩:=h e1
  refine ⟨blk,base,(hm (by omega)).trans h1,h2,by rw [hs]; exact h3,h4,h5,h6,fun q hq=>?_⟩
  rw [he.kp.shape blk (hr.dis b blk base h1).2.2.2] at hq
  rw [hs]; exact h7 q hq
theorem VR.of_plain {X X':Nat→Prop} {m m':Bd} {A A':Nat→Prop} {S S':St} {w w':World} {a:AV} {v:Value} (hp:AC a = true) (h:VR X m A S w a v):VR X' m' A' S' w' a v:=by
 cases h <;> simp [AC] at hp <;> constructor
theorem VR.oneCell {X:Nat→Prop} {m:Bd} {A:Nat→Prop} {S:St} {w:World} {a:AV} {v:Value} (hc:Bv a = true) (h:VR X m A S w a v):v.oneCell' = true:=by
 cases h <;> first | rfl | (simp [Bv] at hc; done) | assumption
theorem VR.cells {X:Nat→Prop} {m:Bd} {A:Nat→Prop} {S:St} {w:World} {a:AV} {v:Value} (h:VR X m A S w a v) (h0:(AK a).length≠0) :
  (AK a).length = v.cells.size∧(∀ x∈AK a,Bv x = true)∧∀ (j:Nat) (x:AV),(AK a)[j]? = some x→∃ u,v.cells[j]? = some u∧VR X m A S w x u:=by
 have one:∀ (a:AV) (v:Value),Bv a = true→VR X m A S w a v→AK a = [a]∧v.cells = #[v]:=by
  intro a v hc hv
  have h1:=VR.oneCell hc hv
  constructor
  ·cases a <;> simp [Bv,AK] at hc ⊢
  ·cases v <;> simp [Value.oneCell',Value.cells] at h1 ⊢
 by_cases hc:Bv a = true
 ·obtain ⟨e1,e2⟩:=one a v hc h
  rw [e1,e2]
  refine ⟨rfl,by simpa using hc,fun j x hx=>?_⟩
  cases j with
  | zero=>simp at hx; subst hx; exact ⟨v,rfl,h⟩
  | succ j=>simp at hx
 ·cases h with
  | agg cs vs hl hce hall=>
   refine ⟨hl,hce,fun j x hx=>?_⟩
   have hj:j < vs.size:=by rw [← hl]; exact (List.getElem?_eq_some_iff.1 hx).1
   exact ⟨vs[j],by simp [Value.cells,hj],hall j x _ hx (by simp [hj])⟩
  | tup cs vs hl hall=>exact absurd rfl h0
  | non v=>exact absurd rfl h0
  | _=>simp [Bv] at hc
end Go.Rf
