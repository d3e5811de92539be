/- GA of memory: a new box, a new read-only block, a box written, a box moved, a draw. -/
import Derived.Test.YthbiabieiopobaaGreatDoorRf2
import Derived.Laws.Rows
import Derived.Laws.CopyRow
set_option linter.unusedVariables false
set_option linter.unusedSimpArgs false
namespace Go.Rf
open Go
variable {g0:Nat} {X:Nat→Prop} {m:Bd} {A:Nat→Prop} {S:St} {w:World}
theorem Rel.lt (hr:Rel g0 X m A S w) {b:Nat} {p:Nat×Nat} (h:m b = some p):b < S.length:=by
 obtain ⟨blk,base⟩:=p
 obtain ⟨B,hB,_⟩:=hr.box b blk base h
 exact (List.getElem?_eq_some_iff.1 hB).1
theorem D4 {w w':World} {c:Nat} (h:w'.heap[c]? = w.heap[c]?):w'.shape? c = w.shape? c:=by simp [World.shape?,h]
theorem Rel.same (hr:Rel g0 X m A S w) {w':World} (hh:w'.heap = w.heap) (ho:w'.os = w.os) (ht:w'.tape = w.tape) (hu:w'.output = w.output) :
  Rel g0 X m A S w'∧Ext m A S w m A S w':=by
 have he:Ext m A S w m A S w':=⟨⟨ho,ht,hu,by rw [hh]; exact Nat.le_refl _,fun c _ _=>by rw [hh],fun c _=>by simp [World.shape?,hh]⟩,
  fun _ h=>h,fun _ h=>.inl h,fun _ _ _ h=>.inl h,Nat.le_refl _,fun _ B h=>⟨B,h,rfl,Nat.le_refl _,fun _=>rfl⟩⟩
 refine ⟨⟨fun b blk base h=>?_,hr.inj,fun b blk o h=>by rw [hh]; exact hr.dis b blk o h,fun c h=>by rw [hh]; exact hr.alt c h,fun c h=>by rw [hh]; exact hr.xlt c h,by rw [hh]; exact hr.glt⟩,he⟩
 obtain ⟨B,hB,hb⟩:=hr.box b blk base h
 obtain ⟨arr,ty,h1,h2,h3⟩:=hb.blk
 refine ⟨B,hB,hb.len,hb.cell,hb.pos,hb.pl,arr,ty,by rw [hh]; exact h1,h2,fun i e j a hi hj=>?_⟩
 obtain ⟨v,hv,hr'⟩:=h3 i e j a hi hj
 exact ⟨v,hv,hr'.mono hr he⟩
theorem Rel.drew (hr:Rel g0 X m A S w):Rel g0 X m A S w.drew∧Ext m A S w m A S w.drew:=hr.same rfl rfl rfl rfl
theorem BE (w:World) (o:Obj) (c:Nat) (h:c < w.heap.size):(w.alloc o).heap[c]? = w.heap[c]?:=heap_alloc_old w o c h
theorem Rel.keepBox {m':Bd} {A':Nat→Prop} {S':St} {w':World} (hr:Rel g0 X m A S w) (he:Ext m A S w m' A' S' w') {b blk base:Nat} {B:Box}
  (hh:w'.heap[blk]? = w.heap[blk]?) (hb:f7 X m A S w B blk base):f7 X m' A' S' w' B blk base:=by
 obtain ⟨arr,ty,h1,h2,h3⟩:=hb.blk
 refine ⟨hb.len,hb.cell,hb.pos,hb.pl,arr,ty,by rw [hh]; exact h1,h2,fun i e j a hi hj=>?_⟩
 obtain ⟨v,hv,hr'⟩:=h3 i e j a hi hj
 exact ⟨v,hv,hr'.mono hr he⟩
def BB (m:Bd) (b:Nat) (p:Nat×Nat):Bd:=fun x=>if x = b then some p else m x
theorem Rel.newBox (hr:Rel g0 X m A S w) (B:Box) (arr:Array Value) (ty:TypeId) (hlen:∀ e∈B.es,e.length = B.sz) (hcell:∀ e∈B.es,∀ a∈e,Bv a = true) (hpos:0 < B.sz)
  (hpl:B.pl = true→∀ e∈B.es,∀ a∈e,AC a = true) (hsz:B.es.length * B.sz≤arr.size)
  (hv:∀ (i:Nat) (e:List AV) (j:Nat) (a:AV),B.es[i]? = some e→e[j]? = some a→∃ v,arr[i * B.sz + j]? = some v∧VR X m A S w a v) :
  Rel g0 X (BB m S.length (w.heap.size,0)) A (S++[B]) (w.alloc (.cells arr ty)) ∧
  Ext m A S w (BB m S.length (w.heap.size,0)) A (S++[B]) (w.alloc (.cells arr ty)):=by
 have hn:m S.length = none:=by
  cases h:m S.length with
  | none=>rfl
  | some p=>exact absurd (hr.lt h) (Nat.lt_irrefl _)
 have he:Ext m A S w (BB m S.length (w.heap.size,0)) A (S++[B]) (w.alloc (.cells arr ty)):=by
  refine ⟨⟨rfl,rfl,rfl,by simp,fun c hc _=>BE w _ c hc,fun c hc=>D4 (BE w _ c hc)⟩,fun _ h=>h,fun _ h=>.inl h,fun b c o h=>?_,by simp,fun b B1 h=>?_⟩
  ·unfold BB at h
   split at h
   ·injection h with h; injection h with h1 h2; subst h1; exact .inr (Nat.le_refl _)
   ·exact .inl h
  ·have hb:=(List.getElem?_eq_some_iff.1 h).1
   exact ⟨B1,by rw [List.getElem?_append_left hb]; exact h,rfl,Nat.le_refl _,fun _=>(by simp [BB,Nat.ne_of_lt hb])⟩
 refine ⟨⟨fun b blk base h=>?_,fun b b' blk o o' h h'=>?_,fun b blk o h=>?_,fun c h=>by have:=hr.alt c h; simp; omega,fun c h=>by have:=hr.xlt c h; simp; omega,by have:=hr.glt; simp; omega⟩,he⟩
 ·unfold BB at h
  split at h
  ·rename_i hb
   injection h with h; injection h with h1 h2; subst h1; subst h2; subst hb
   refine ⟨B,by simp,hlen,hcell,hpos,hpl,arr,ty,heap_alloc_new w _,by simpa using hsz,fun i e j a hi hj=>?_⟩
   obtain ⟨v,h1,h2⟩:=hv i e j a hi hj
   exact ⟨v,by simpa using h1,h2.mono hr he⟩
  ·obtain ⟨B1,hB1,hb1⟩:=hr.box b blk base h
   have hb:=(List.getElem?_eq_some_iff.1 hB1).1
   exact ⟨B1,by rw [List.getElem?_append_left hb]; exact hB1,hr.keepBox (b:=b) he (BE w _ blk (hr.dis b blk base h).2.2.2) hb1⟩
 ·unfold BB at h h'
  split at h <;> split at h'
  ·rename_i e1 e2; rw [e1,e2]
  ·injection h with h; injection h with h1 _; subst h1
   exact absurd (hr.dis b' _ _ h').2.2.2 (Nat.lt_irrefl _)
  ·injection h' with h'; injection h' with h1 _; subst h1
   exact absurd (hr.dis b _ _ h).2.2.2 (Nat.lt_irrefl _)
  ·exact hr.inj b b' blk o o' h h'
 ·unfold BB at h
  split at h
  ·injection h with h; injection h with h1 _; subst h1
   exact ⟨fun h=>absurd (hr.alt _ h) (Nat.lt_irrefl _),fun h=>absurd (hr.xlt _ h) (Nat.lt_irrefl _),hr.glt,by simp⟩
  ·obtain ⟨h1,h2,h3,h4⟩:=hr.dis b blk o h
   exact ⟨h1,h2,h3,by simp; omega⟩
theorem Rel.newRo (hr:Rel g0 X m A S w) (o:Obj) :
  Rel g0 X m (fun c=>A c∨c = w.heap.size) S (w.alloc o)∧Ext m A S w m (fun c=>A c∨c = w.heap.size) S (w.alloc o):=by
 have he:Ext m A S w m (fun c=>A c∨c = w.heap.size) S (w.alloc o):=
  ⟨⟨rfl,rfl,rfl,by simp,fun c hc _=>BE w _ c hc,fun c hc=>D4 (BE w _ c hc)⟩,fun _ h=>.inl h,fun c h=>h.imp id (fun e=>by omega),fun _ _ _ h=>.inl h,Nat.le_refl _,
   fun _ B h=>⟨B,h,rfl,Nat.le_refl _,fun _=>rfl⟩⟩
 refine ⟨⟨fun b blk base h=>?_,hr.inj,fun b blk o h=>?_,fun c h=>?_,fun c h=>by have:=hr.xlt c h; simp; omega,by have:=hr.glt; simp; omega⟩,he⟩
 ·obtain ⟨B1,hB1,hb1⟩:=hr.box b blk base h
  exact ⟨B1,hB1,hr.keepBox (b:=b) he (BE w _ blk (hr.dis b blk base h).2.2.2) hb1⟩
 ·obtain ⟨h1,h2,h3,h4⟩:=hr.dis b blk o h
  refine ⟨fun h=>?_,h2,h3,by simp; omega⟩
  rcases h with h | h
  ·exact h1 h
  ·omega
 ·rcases h with h | h
  ·have:=hr.alt c h; simp; omega
  ·subst h; simp
theorem Rel.setBox (hr:Rel g0 X m A S w) {b blk base:Nat} {B B':Box} {arr arr':Array Value} {ty:TypeId} (hm:m b = some (blk,base)) (hB:S[b]? = some B)
  (hh:w.heap[blk]? = some (.cells arr ty (0,0))) (hs:arr'.size = arr.size) (hsz:B'.sz = B.sz) (hl:B.es.length≤B'.es.length)
  (hlen:∀ e∈B'.es,e.length = B.sz) (hcell:∀ e∈B'.es,∀ a∈e,Bv a = true) (hpl:B'.pl = true→∀ e∈B'.es,∀ a∈e,AC a = true)
  (hroom:base + B'.es.length * B.sz≤arr.size)
  (hv:∀ (i:Nat) (e:List AV) (j:Nat) (a:AV),B'.es[i]? = some e→e[j]? = some a→∃ v,arr'[base + (i * B.sz + j)]? = some v∧VR X m A S w a v) :
  Rel g0 X m A (S.set b B') (w.setRow blk arr')∧Ext m A S w m A (S.set b B') (w.setRow blk arr'):=by
 have hblt:=(List.getElem?_eq_some_iff.1 hB).1
 have he:Ext m A S w m A (S.set b B') (w.setRow blk arr'):=by
  refine ⟨⟨rfl,rfl,rfl,by simp,fun c hc hM=>setRow_other w blk c arr' (fun e=>hM ⟨b,base,e ▸ hm⟩),fun c hc=>?_⟩,fun _ h=>h,fun _ h=>.inl h,fun _ _ _ h=>.inl h,by simp,fun b1 B1 h=>?_⟩
  ·by_cases e:c = blk
   ·subst e
    simp [World.shape?,setRow_heap w c arr arr' ty _ hh,hh,hs]
   ·exact D4 (setRow_other w blk c arr' e)
  ·by_cases e:b1 = b
   ·subst e
    rw [hB] at h; injection h with h; subst h
    exact ⟨B',by simp [hblt],hsz,hl,fun _=>rfl⟩
   ·exact ⟨B1,by rw [List.getElem?_set_ne (fun h=>e h.symm)]; exact h,rfl,Nat.le_refl _,fun _=>rfl⟩
 refine ⟨⟨fun b1 blk1 base1 h=>?_,hr.inj,fun b1 blk1 o h=>by simpa using hr.dis b1 blk1 o h,fun c h=>by simpa using hr.alt c h,fun c h=>by simpa using hr.xlt c h,by simpa using hr.glt⟩,he⟩
 by_cases e:b1 = b
 ·subst e
  rw [hm] at h; injection h with h; injection h with h1 h2; subst h1; subst h2
  have hpos:=(hr.box b1 _ _ hm)
  obtain ⟨B1,hB1,hb1⟩:=hpos
  rw [hB] at hB1; injection hB1 with hB1; subst hB1
  refine ⟨B',by simp [hblt],by rw [hsz]; exact hlen,hcell,by rw [hsz]; exact hb1.pos,hpl,arr',ty,setRow_heap w blk arr arr' ty _ hh,by rw [hsz,hs]; exact hroom,fun i e j a hi hj=>?_⟩
  obtain ⟨v,h1,h2⟩:=hv i e j a hi hj
  exact ⟨v,by rw [hsz]; exact h1,h2.mono hr he⟩
 ·obtain ⟨B1,hB1,hb1⟩:=hr.box b1 blk1 base1 h
  refine ⟨B1,by rw [List.getElem?_set_ne (fun h=>e h.symm)]; exact hB1,hr.keepBox (b:=b1) he (setRow_other w blk blk1 arr' ?_) hb1⟩
  intro e2
  subst e2
  exact e (hr.inj b1 b _ _ _ h hm)
theorem Rel.moveBox (hr:Rel g0 X m A S w) {b:Nat} {B B':Box} (arr:Array Value) (ty:TypeId) (hB:S[b]? = some B) (hpos:0 < B.sz)
  (hsz:B'.sz = B.sz) (hl:B.es.length < B'.es.length)
  (hlen:∀ e∈B'.es,e.length = B.sz) (hcell:∀ e∈B'.es,∀ a∈e,Bv a = true) (hpl:B'.pl = true→∀ e∈B'.es,∀ a∈e,AC a = true)
  (hroom:B'.es.length * B.sz≤arr.size)
  (hv:∀ (i:Nat) (e:List AV) (j:Nat) (a:AV),B'.es[i]? = some e→e[j]? = some a→∃ v,arr[i * B.sz + j]? = some v∧VR X m A S w a v) :
  Rel g0 X (BB m b (w.heap.size,0)) A (S.set b B') (w.alloc (.cells arr ty)) ∧
  Ext m A S w (BB m b (w.heap.size,0)) A (S.set b B') (w.alloc (.cells arr ty)):=by
 have hblt:=(List.getElem?_eq_some_iff.1 hB).1
 have he:Ext m A S w (BB m b (w.heap.size,0)) A (S.set b B') (w.alloc (.cells arr ty)):=by
  refine ⟨⟨rfl,rfl,rfl,by simp,fun c hc _=>BE w _ c hc,fun c hc=>D4 (BE w _ c hc)⟩,fun _ h=>h,fun _ h=>.inl h,fun b c o h=>?_,by simp,fun b1 B1 h=>?_⟩
  ·unfold BB at h
   split at h
   ·injection h with h; injection h with h1 h2; subst h1; exact .inr (Nat.le_refl _)
   ·exact .inl h
  ·by_cases e:b1 = b
   ·subst e
    rw [hB] at h; injection h with h; subst h
    exact ⟨B',by simp [hblt],hsz,Nat.le_of_lt hl,fun e=>by omega⟩
   ·exact ⟨B1,by rw [List.getElem?_set_ne (fun h=>e h.symm)]; exact h,rfl,Nat.le_refl _,fun _=>(by simp [BB,e])⟩
 refine ⟨⟨fun b1 blk base h=>?_,fun b1 b' blk o o' h h'=>?_,fun b1 blk o h=>?_,fun c h=>by have:=hr.alt c h; simp; omega,fun c h=>by have:=hr.xlt c h; simp; omega,by have:=hr.glt; simp; omega⟩,he⟩
 ·unfold BB at h
  split at h
  ·rename_i hb
   injection h with h; injection h with h1 h2; subst h1; subst h2; subst hb
   refine ⟨B',by simp [hblt],by rw [hsz]; exact hlen,hcell,by rw [hsz]; exact hpos,hpl,arr,ty,heap_alloc_new w _,by rw [hsz]; simpa using hroom,fun i e j a hi hj=>?_⟩
   obtain ⟨v,h1,h2⟩:=hv i e j a hi hj
   exact ⟨v,by rw [hsz]; simpa using h1,h2.mono hr he⟩
  ·rename_i hne
   obtain ⟨B1,hB1,hb1⟩:=hr.box b1 blk base h
   exact ⟨B1,by rw [List.getElem?_set_ne (fun h=>hne h.symm)]; exact hB1,hr.keepBox (b:=b1) he (BE w _ blk (hr.dis b1 blk base h).2.2.2) hb1⟩
 ·unfold BB at h h'
  split at h <;> split at h'
  ·rename_i e1 e2; rw [e1,e2]
  ·injection h with h; injection h with h1 _; subst h1
   exact absurd (hr.dis b' _ _ h').2.2.2 (Nat.lt_irrefl _)
  ·injection h' with h'; injection h' with h1 _; subst h1
   exact absurd (hr.dis b1 _ _ h).2.2.2 (Nat.lt_irrefl _)
  ·exact hr.inj b1 b' blk o o' h h'
 ·unfold BB at h
  split at h
  ·injection h with h; injection h with h1 _; subst h1
   exact ⟨fun h=>absurd (hr.alt _ h) (Nat.lt_irrefl _),fun h=>absurd (hr.xlt _ h) (Nat.lt_irrefl _),hr.glt,by simp⟩
  ·obtain ⟨h1,h2,h3,h4⟩:=hr.dis b1 blk o h
   exact ⟨h1,h2,h3,by simp; omega⟩
end Go.Rf
