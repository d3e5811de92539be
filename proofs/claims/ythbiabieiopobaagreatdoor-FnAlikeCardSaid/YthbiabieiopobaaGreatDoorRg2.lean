/- Rules: what the evaluator does, and what a AC function does. -/
import Derived.Test.YthbiabieiopobaaGreatDoorRg1
set_option linter.unusedVariables false
set_option linter.unusedSimpArgs false
namespace Go.Rf
open Go
def Fit {ρ τ:Type} (x:Option ρ) (m:Option τ) (P:τ→ρ→Prop):Prop:=∀ t,m = some t→∃ r,x = some r∧P t r
def Okh {ρ τ:Type} (L:List En) (k:St→Option ρ) (m:Option τ) (P:τ→ρ→Prop):Prop:=∀ S,HP S L→Fit (k S) m P
def P0 {τ:Type} (E:τ→AV) (t:τ) (r:AV×St):Prop:=fzr r.2 r.1 = E t
abbrev CW:=FuncId→List AV→St→Option (AV×St)
abbrev OA:=Option (AV×St)
abbrev gd (l:List AV) (i:Nat):AV:=l.getD i .non
def Av {α:Type} (xs:List α) (i:Int):Option α:=if 0≤i then xs[i.toNat]? else none
def EL {α:Type} (xs:List α) (i j:Int):Option (List α):=if 0≤i∧i≤j∧j≤xs.length then some ((xs.drop i.toNat).take (j - i).toNat) else none
def Bw {α:Type} (by_:Nat) (xs ys:List α):Option (List α):=if (xs.length + ys.length) * (by_ + 1)≤17592186044416 then some (xs++ys) else none
def eU (a b:Str):Option Str:=if a.length + b.length≤4611686018427387904 then some (a++b) else none
def setI {α:Type} (xs:List α) (i:Int) (x:α):Option (List α):=if 0≤i∧i < xs.length then some (xs.set i.toNat x) else none
section
variable {ρ τ:Type} {L:List En} {m m1 m2:Option τ} {P:τ→ρ→Prop}
theorem AD {x y:St→Option ρ} (h:∀ S,x S = y S) (hk:Okh [] (fun S=>y S) m P):Fit (x []) m P:=by rw [h]; exact hk [] HP.nil
theorem Do {x y:St→Option ρ} (h:∀ S,x S = y S) (hk:Okh L (fun S=>y S) m P):Okh L (fun S=>x S) m P:=by
 have e:x = y:=funext h
 subst e
 exact hk
theorem fr {α β:Type} {a:α→β} (S:α):a S = a S:=rfl
theorem q_p {x:St→Option AV} {v:AV} {k:AV→St→Option ρ} (h:∀ S,x S = some v) (hk:Okh L (k v) m P):Okh L (fun S=>pk (x S) S fun r=>k r S) m P:=fun S hS=>by
 show Fit (pk (x S) S fun r=>k r S) m P
 rw [h S]; exact hk S hS
theorem Vk {x:Option (AV×St)} {S:St} {l fl:Bool} {es:List (List AV)} (h:x = some (.rsl l fl es,S)):AN x S = some (.rsl l fl es,S):=by rw [h]; rfl
theorem GU {x:St→Option AV} {v:AV} {k:AV→St→Option ρ} (h:∀ S,HP S L→x S = some v) (hk:Okh L (k v) m P):Okh L (fun S=>pk (x S) S fun r=>k r S) m P:=fun S hS=>by
 show Fit (pk (x S) S fun r=>k r S) m P
 rw [h S hS]; exact hk S hS
theorem q_q {x:St→Option (AV×St)} {v:AV} {k:AV→St→Option ρ} (h:∀ S,x S = some (v,S)) (hk:Okh L (k v) m P):Okh L (fun S=>pq (x S) fun r=>k r S) m P:=fun S hS=>by
 show Fit (pq (x S) fun r=>k r S) m P
 rw [h S]; exact hk S hS
theorem q_e {x:St→Option (AV×St)} {v:AV} {k:AV→St→Option ρ} (h:∀ S,x S = some (v,S)) (hk:Okh L (k v) m P):Okh L (fun S=>pe (x S) k) m P:=fun S hS=>by
 show Fit (pe (x S) k) m P
 rw [h S]; exact hk S hS
theorem cS {b:Bool} {x y:St→Option ρ} (h1:b = true→Okh L x m1 P) (h2:b = false→Okh L y m2 P):Okh L (fun S=>ifA (.bool b) (x S) (y S)) (bif b then m1 else m2) P:=fun S hS=>by
 cases b
 ·exact h2 rfl S hS
 ·exact h1 rfl S hS
theorem q_gT {b:Bool} {x y:St→Option ρ} (h1:b = true→Okh L x m1 P) (h2:b = false→Okh L y m2 P):Okh L (fun S=>An (.bool b) true (x S) (y S)) (bif b then m1 else m2) P:=fun S hS=>by
 cases b
 ·exact h2 rfl S hS
 ·exact h1 rfl S hS
theorem q_gF {b:Bool} {x y:St→Option ρ} (h1:b = true→Okh L y m1 P) (h2:b = false→Okh L x m2 P):Okh L (fun S=>An (.bool b) false (x S) (y S)) (bif b then m1 else m2) P:=fun S hS=>by
 cases b
 ·exact h2 rfl S hS
 ·exact h1 rfl S hS
theorem Jb {b:Bool} {x y:St→Option ρ} {t1 t2:τ} (h1:b = true→Okh L x (some t1) P) (h2:b = false→Okh L y (some t2) P):Okh L (fun S=>ifA (.bool b) (x S) (y S)) (some (bif b then t1 else t2)) P:=fun S hS=>by
 cases b
 ·exact h2 rfl S hS
 ·exact h1 rfl S hS
theorem Vu {b:Bool} {x y:St→Option ρ} {t1 t2:τ} (h1:b = true→Okh L x (some t1) P) (h2:b = false→Okh L y (some t2) P):Okh L (fun S=>An (.bool b) true (x S) (y S)) (some (bif b then t1 else t2)) P:=fun S hS=>by
 cases b
 ·exact h2 rfl S hS
 ·exact h1 rfl S hS
theorem Vv {b:Bool} {x y:St→Option ρ} {t1 t2:τ} (h1:b = true→Okh L y (some t1) P) (h2:b = false→Okh L x (some t2) P):Okh L (fun S=>An (.bool b) false (x S) (y S)) (some (bif b then t1 else t2)) P:=fun S hS=>by
 cases b
 ·exact h2 rfl S hS
 ·exact h1 rfl S hS
end
section
variable {ρ τ:Type} {L:List En} {m:Option τ} {P:τ→ρ→Prop}
theorem HP.box {S:St} (h:HP S L) (cs:List AV):HP (S++[⟨cs.length,[cs],cs.all AC⟩]) (bx S.length cs::L):=
 h.new (fun i hi=>List.getElem?_append_left hi) (fun i hi=>by simp [bx] at hi; omega) ⟨cs.all AC,by simp,id⟩
theorem AE {cs:List AV} {n:Nat} {k:AV→St→Option ρ} (hn:cs.length = n) (hk:∀ b,Okh (bx b cs::L) (k (.bp b 0 0 n 1)) m P):Okh L (fun S=>pe (some (A5 S cs)) k) m P:=fun S hS=>by
 subst hn
 exact hk S.length _ (hS.box cs)
theorem AG {a:AV} {cs:List AV} {n:Nat} {k:AV→St→Option ρ} (hc:AK a = cs) (hn:cs.length = n) (h0:n≠0) (hk:∀ b,Okh (bx b cs::L) (k (.bp b 0 0 n 1)) m P):Okh L (fun S=>pe (Bm a S) k) m P:=fun S hS=>by
 subst hn; subst hc
 show Fit (pe (Bm a S) k) m P
 unfold Bm
 rw [if_neg h0]
 exact hk S.length _ (hS.box _)
theorem HP.cells {S:St} (h:HP S L) {i b:Nat} {cs:List AV} (hL:L[i]? = some (bx b cs)) (o n:Nat):BY S (.bp b 0 o n 1) = some ((cs.drop o).take n):=by
 obtain ⟨pl,h1,_⟩:=h.get hL
 simp [BY,h1]
theorem Ao {b o n:Nat} {cs:List AV} {c:AV} {k:AV→St→Option ρ} (i:Nat) (hL:L[i]? = some (bx b cs)) (hc:(cs.drop o).take n = [c]) (hk:Okh L (k c) m P):Okh L (fun S=>pk (ld1 S (.bp b 0 o n 1)) S fun r=>k r S) m P:=
 GU (x:=fun S=>ld1 S (.bp b 0 o n 1)) (fun S hS=>by simp [ld1,hS.cells hL,hc]) hk
theorem A9 {b o n:Nat} {cs cs':List AV} {k:AV→St→Option ρ} (i:Nat) (hL:L[i]? = some (bx b cs)) (hc:(cs.drop o).take n = cs') (hn:cs'.length = n) (hk:Okh L (k (.agg cs')) m P):Okh L (fun S=>pk (ldA S (.bp b 0 o n 1) n) S fun r=>k r S) m P:=
 GU (x:=fun S=>ldA S (.bp b 0 o n 1) n) (fun S hS=>by simp [ldA,hS.cells hL,hc,hn]) hk
theorem A6 {b o n:Nat} {x:AV} {cs cx:List AV} {k:AV→St→Option ρ} (i:Nat) (hL:L[i]? = some (bx b cs)) (hx:AK x = cx) (hn:cx.length = n) (h0:n≠0) (hl:(BL cs o cx).length = cs.length)
  (hk:Okh (L.set i (bx b (BL cs o cx))) (k und) m P):Okh L (fun S=>pe (Aj n (.bp b 0 o n 1) x S) k) m P:=fun S hS=>by
 obtain ⟨pl,h1,h2⟩:=hS.get hL
 have hst:Aj n (.bp b 0 o n 1) x S = some (und,S.set b ⟨cs.length,[BL cs o cx],pl && cx.all AC⟩):=by
  unfold Aj
  rw [hx,if_pos ⟨hn,h0⟩]
  simp [stA,h1,hn]
 show Fit (pe (Aj n (.bp b 0 o n 1) x S) k) m P
 rw [hst]
 have hb:b < S.length:=(List.getElem?_eq_some_iff.1 h1).1
 refine hk _ (hS.upd hL (fun j hj _=>List.getElem?_set_ne (by rintro rfl; exact hj (by simp [bx]))) (fun j hj=>.inl hj) ⟨pl && cx.all AC,by rw [List.getElem?_set_self hb,hl],fun hp=>?_⟩)
 simp only [Bool.and_eq_true] at hp
 rw [List.all_eq_true]
 intro a ha
 simp only [BL,List.mem_append] at ha
 rcases ha with h | h | h
 ·exact List.all_eq_true.1 (h2 hp.1) a (List.mem_of_mem_take h)
 ·exact List.all_eq_true.1 hp.2 a h
 ·exact List.all_eq_true.1 (h2 hp.1) a (List.mem_of_mem_drop h)
theorem AL {α:Type} {f:α→List AV} {l fl:Bool} {xs:List α} {k:AV→St→Option ρ} (hk:Okh L (k (.int .i64 (xs.length:Int))) m P):Okh L (fun S=>pk (Fe (.rsl l fl (xs.map f))) S fun r=>k r S) m P:=
 q_p (x:=fun _=>Fe (.rsl l fl (xs.map f))) (fun S=>by simp [Fe]) hk
theorem JL {α:Type} [Enc α] {l:Bool} {v:AV} {xs:List α} {k:AV→St→Option ρ} (i:Nat) (hL:L[i]? = some (sl l v xs)) (hk:Okh L (k (.int .i64 (xs.length:Int))) m P):Okh L (fun S=>pk (Fe v) S fun r=>k r S) m P:=
 GU (x:=fun _=>Fe v) (fun S hS=>by
  rcases hS.get hL with ⟨rfl,rfl⟩ | ⟨b,fl,pl,rfl,_,_⟩
  ·rfl
  ·rfl) hk
theorem Bf {α:Type} [e:Enc α] {l fl:Bool} {xs:List α} {n:Nat} {kk:IntKind} {i:Int} {k:AV→St→Option ρ} {mk:α→Option τ} (hn:e.sz = n) (hk:∀ x,Av xs i = some x→Okh L (k (.rp l (e.cs l x))) (mk x) P) :
  Okh L (fun S=>pk (B8 n (.rsl l fl (xs.map (e.cs l))) (.int kk i) S) S fun r=>k r S) ((Av xs i).bind mk) P:=fun S hS=>by
 intro t ht
 rw [Option.bind_eq_some_iff] at ht
 obtain ⟨x,hx,hm⟩:=ht
 have h1:B8 n (.rsl l fl (xs.map (e.cs l))) (.int kk i) S = some (.rp l (e.cs l x)):=by
  unfold Av at hx
  split at hx <;> try (cases hx; done)
  rename_i h0
  simp [B8,h0,hx,e.len,hn]
 show ∃ r,pk (B8 n (.rsl l fl (xs.map (e.cs l))) (.int kk i) S) S (fun r=>k r S) = some r∧_
 rw [h1]
 exact hk x hx S hS t hm
theorem Pv {α:Type} [e:Enc α] {l fl:Bool} {xs ys:List α} {n:Nat} {lo hi:Option AV} {i j:Int} {S:St} (hn:e.sz = n) (hlo:Dz lo = (if 0≤i then some (some i.toNat) else none)∨(lo = none∧i = 0)) (hhi:Dz hi = (if 0≤j then some (some j.toNat) else none)∨(hi = none∧j = xs.length))
  (h:EL xs i j = some ys):∃ fl',Be n (.rsl l fl (xs.map (e.cs l))) lo hi none S = some (.rsl l fl' (ys.map (e.cs l)),S):=by
 unfold EL at h
 split at h <;> try (cases h; done)
 rename_i hij
 injection h with h
 subst h
 obtain ⟨h0,h1,h2⟩:=hij
 have hlo':(Dz lo = some (some i.toNat))∨(Dz lo = some none∧i = 0):=hlo.imp (fun h=>by rw [h,if_pos h0]) (fun h=>by rw [h.1]; exact ⟨rfl,h.2⟩)
 have hhi':(Dz hi = some (some j.toNat))∨(Dz hi = some none∧j = xs.length):=hhi.imp (fun h=>by rw [h,if_pos (by omega)]) (fun h=>by rw [h.1]; exact ⟨rfl,h.2⟩)
 have hall:(xs.map (e.cs l)).all (·.length == n) = true:=by
  rw [List.all_map,List.all_eq_true]
  intro x _
  simp [e.len,hn]
 have key:∀ (a b:Nat),a≤b→b≤xs.length→((xs.map (e.cs l)).drop a).take (b - a) = ((xs.drop a).take (b - a)).map (e.cs l):=by
  intro a b _ _
  rw [List.map_take,List.map_drop]
 unfold Be E8
 rcases hlo' with q1 | ⟨q1,q1'⟩ <;> rcases hhi' with q2 | ⟨q2,q2'⟩ <;> rw [q1,q2]
 ·refine ⟨fl && j.toNat == xs.length,?_⟩
  simp only [Dz,Option.getD_some,List.length_map]
  rw [if_pos ⟨by omega,by omega,hall⟩]
  simp only [Option.map_some]
  rw [key _ _ (by omega) (by omega),show (j - i).toNat = j.toNat - i.toNat by omega]
 ·subst q2'
  refine ⟨fl && xs.length == xs.length,?_⟩
  simp only [Dz,Option.getD_some,Option.getD_none,List.length_map]
  rw [if_pos ⟨by omega,by omega,hall⟩]
  simp only [Option.map_some]
  rw [key _ _ (by omega) (by omega),show ((xs.length:Int) - i).toNat = xs.length - i.toNat by omega]
 ·subst q1'
  refine ⟨fl && j.toNat == xs.length,?_⟩
  simp only [Dz,Option.getD_some,Option.getD_none,List.length_map]
  rw [if_pos ⟨by omega,by omega,hall⟩]
  simp only [Option.map_some]
  rw [key _ _ (by omega) (by omega),show (j - 0).toNat = j.toNat - 0 by omega]
  rfl
 ·subst q1'; subst q2'
  refine ⟨fl && xs.length == xs.length,?_⟩
  simp only [Dz,Option.getD_none,List.length_map]
  rw [if_pos ⟨by omega,by omega,hall⟩]
  simp only [Option.map_some]
  rw [key _ _ (by omega) (by omega),show ((xs.length:Int) - 0).toNat = xs.length - 0 by omega]
  rfl
theorem NX {α:Type} [e:Enc α] {l fl:Bool} {xs:List α} {n:Nat} {lo hi:Option AV} {i j:Int} {k:AV→St→Option ρ} {mk:List α→Option τ} (hn:e.sz = n) (hlo:Dz lo = (if 0≤i then some (some i.toNat) else none)∨(lo = none∧i = 0)) (hhi:Dz hi = (if 0≤j then some (some j.toNat) else none)∨(hi = none∧j = xs.length))
  (hk:∀ fl' ys,EL xs i j = some ys→Okh L (k (.rsl l fl' (ys.map (e.cs l)))) (mk ys) P):Okh L (fun S=>pq (Be n (.rsl l fl (xs.map (e.cs l))) lo hi none S) fun r=>k r S) ((EL xs i j).bind mk) P:=fun S hS=>by
 intro t ht
 rw [Option.bind_eq_some_iff] at ht
 obtain ⟨ys,hy,hm⟩:=ht
 obtain ⟨fl',h1⟩:=Pv (S:=S) (fl:=fl) (l:=l) hn hlo hhi hy
 show ∃ r,pq (Be n (.rsl l fl (xs.map (e.cs l))) lo hi none S) (fun r=>k r S) = some r∧_
 rw [h1]
 exact hk fl' ys hy S hS t hm
theorem Zg {α:Type} [e:Enc α] {l:Bool} {v x:AV} {xs ys zs:List α} {n by_:Nat} {S:St} (i:Nat) (hL:L[i]? = some (sl l v xs)) (hn:e.sz = n) (hx:BU S x = some (ys.map (e.cs l))) (h:Bw by_ xs ys = some zs) (hS:HP S L) :
  ∃ v' S',BJ n by_ v x S = some (v',S')∧HP S' (L.set i (sl l v' zs)):=by
 subst hn
 unfold Bw at h
 split at h <;> try (cases h; done)
 rename_i hb
 injection h with h; subst h
 have hall:∀ ws:List α,(ws.map (e.cs l)).all (·.length == e.sz) = true:=fun ws=>by
  rw [List.all_map,List.all_eq_true]
  intro x _
  simp [e.len]
 have hset:∀ v' S',(∀ i,i ∉ (sl l v xs).ids→i < S.length→S'[i]? = S[i]?)→(∀ i∈(sl l v' (xs++ys)).ids,i∈(sl l v xs).ids∨S.length≤i)→(sl l v' (xs++ys)).ok S'→HP S' (L.set i (sl l v' (xs++ys))):=
  fun v' S' a b c=>hS.upd hL a b c
 cases ys with
 | nil=>
  rcases hS.get hL with ⟨rfl,rfl⟩ | ⟨b,fl,pl,rfl,h2,h3⟩
  ·refine ⟨.rsl false true [],S,by simp [BJ,hx,FC],?_⟩
   exact hset _ _ (fun _ _ _=>rfl) (fun _ h=>.inl h) (.inl ⟨rfl,rfl⟩)
  ·refine ⟨.bsl b 0 xs.length xs.length fl,S,by simp [BJ,hx,FC,h2],?_⟩
   refine hset _ _ (fun _ _ _=>rfl) (fun _ h=>.inl h) (.inr ⟨b,fl,pl,by simp,by simpa using h2,by simpa using h3⟩)
 | cons y ys=>
  have hnew:=hall (y::ys)
  rcases hS.get hL with ⟨rfl,rfl⟩ | ⟨b,fl,pl,rfl,h2,h3⟩
  ·refine ⟨.bsl S.length 0 (ys.length + 1) (ys.length + 1) false,S++[⟨e.sz,(y::ys).map (e.cs l),((y::ys).map (e.cs l)).all (·.all AC)⟩],?_,?_⟩
   ·unfold BJ
    rw [hx]
    simp only [List.map_cons] at hnew ⊢
    simp only [FC,hnew,Bool.not_true,Bool.false_eq_true,if_false]
    rw [if_pos ⟨trivial,by simp,by simpa using hb⟩]
    simp
   ·refine hset _ _ (fun j _ hj=>List.getElem?_append_left hj) (fun j hj=>by simp [sl,idS] at hj; exact .inr (by omega)) (.inr ⟨S.length,false,_,by simp,by simp; rfl,fun h=>by simpa using h⟩)
  ·have hbl:b < S.length:=(List.getElem?_eq_some_iff.1 h2).1
   cases fl with
   | true=>
    refine ⟨.bsl S.length 0 (xs.length + (ys.length + 1)) (xs.length + (ys.length + 1)) false,S++[⟨e.sz,xs.map (e.cs l)++(y::ys).map (e.cs l),pl && ((y::ys).map (e.cs l)).all (·.all AC)⟩],?_,?_⟩
    ·unfold BJ
     rw [hx]
     simp only [List.map_cons] at hnew ⊢
     simp only [FC,hnew,Bool.not_true,Bool.false_eq_true,if_false,h2]
     rw [if_pos ⟨by simp,trivial,by omega,by simpa using hb⟩]
     simp [List.take_of_length_le]
    ·refine hset _ _ (fun j _ hj=>List.getElem?_append_left hj) (fun j hj=>by simp [sl,idS] at hj; exact .inr (by omega)) (.inr ⟨S.length,false,pl && ((y::ys).map (e.cs l)).all (·.all AC),by simp,by simp,fun h=>?_⟩)
     simp only [Bool.and_eq_true] at h
     rw [List.map_append,List.all_append,h3 h.1,h.2]; rfl
   | false=>
    refine ⟨.bsl b 0 (xs.length + (ys.length + 1)) (xs.length + (ys.length + 1)) false,S.set b ⟨e.sz,xs.map (e.cs l)++(y::ys).map (e.cs l),pl && ((y::ys).map (e.cs l)).all (·.all AC)⟩,?_,?_⟩
    ·unfold BJ
     rw [hx]
     simp only [List.map_cons] at hnew ⊢
     simp only [FC,hnew,Bool.not_true,Bool.false_eq_true,if_false,h2]
     rw [if_pos ⟨by simp,trivial,by omega,by simpa using hb⟩]
     simp
    ·refine hset _ _ (fun j hj _=>List.getElem?_set_ne (by rintro rfl; exact hj (by simp [sl,idS]))) (fun j hj=>.inl (by simpa [sl,idS] using hj)) (.inr ⟨b,false,pl && ((y::ys).map (e.cs l)).all (·.all AC),by simp,by rw [List.getElem?_set_self hbl]; simp,fun h=>?_⟩)
     simp only [Bool.and_eq_true] at h
     rw [List.map_append,List.all_append,h3 h.1,h.2]; rfl
theorem DO {α:Type} [e:Enc α] {l:Bool} {v x:AV} {xs ys:List α} {n by_:Nat} {k:AV→St→Option ρ} {mk:List α→Option τ} (i:Nat) (hL:L[i]? = some (sl l v xs)) (hn:e.sz = n) (hx:∀ S,HP S L→BU S x = some (ys.map (e.cs l)))
  (hk:∀ v' zs,Bw by_ xs ys = some zs→Okh (L.set i (sl l v' zs)) (k v') (mk zs) P):Okh L (fun S=>pe (BJ n by_ v x S) k) ((Bw by_ xs ys).bind mk) P:=fun S hS=>by
 intro t ht
 rw [Option.bind_eq_some_iff] at ht
 obtain ⟨zs,hz,hm⟩:=ht
 obtain ⟨v',S',h1,h2⟩:=Zg i hL hn (hx S hS) hz hS
 show ∃ r,pe (BJ n by_ v x S) k = some r∧_
 rw [h1]
 exact hk v' zs hz S' h2 t hm
theorem A7 {T:Type} {run:FuncId→List AV→St→Option (AV×St)} {g:FuncId} {args:List AV} {E:T→AV} {mg:Option T} {k:AV→St→Option ρ} {mk:T→Option τ} (hf:∀ S,HP S L→Fit (run g (args.map (fz S)) []) mg (P0 E)) (hk:∀ t,mg = some t→Okh L (k (E t)) (mk t) P) :
  Okh L (fun S=>pq (Bt run g args S) fun r=>k r S) (mg.bind mk) P:=fun S hS=>by
 intro t ht
 rw [Option.bind_eq_some_iff] at ht
 obtain ⟨y,hy,hm⟩:=ht
 obtain ⟨⟨v,S1⟩,h1,h2⟩:=hf S hS y hy
 show ∃ r,pq (Bt run g args S) (fun r=>k r S) = some r∧_
 unfold Bt
 rw [h1]
 have h2:fzr S1 v = E y:=h2
 simp only [pq,h2]
 exact hk y hy S hS t hm
theorem AS {T:Type} {run:FuncId→List AV→St→Option (AV×St)} {g:FuncId} {args:List AV} {E:T→AV} {y:T} {k:AV→St→Option ρ} (hf:∀ S,HP S L→Fit (run g (args.map (fz S)) []) (some y) (P0 E)) (hk:Okh L (k (E y)) m P) :
  Okh L (fun S=>pq (Bt run g args S) fun r=>k r S) m P:=fun S hS=>by
 obtain ⟨⟨v,S1⟩,h1,h2⟩:=hf S hS y rfl
 have h2:fzr S1 v = E y:=h2
 show Fit (pq (Bt run g args S) fun r=>k r S) m P
 unfold Bt
 rw [h1]
 simp only [pq,h2]
 exact hk S hS
theorem Xv {M:List AV→Prop} {S:St} {c1:AV} {f1:Bool→AV} (h1:CV 8 L false c1 f1) (hS:HP S L) (h:∀ l1,M [f1 l1]):M ([c1].map (fz S)):=by
 obtain ⟨l1,e1⟩:=h1.fz hS
 simp only [List.map_cons,List.map_nil,e1]; exact h l1
theorem Hg {M:List AV→Prop} {S:St} {c1 c2:AV} {f1 f2:Bool→AV} (h1:CV 8 L false c1 f1) (h2:CV 8 L false c2 f2) (hS:HP S L) (h:∀ l1 l2,M [f1 l1,f2 l2]):M ([c1,c2].map (fz S)):=by
 obtain ⟨l1,e1⟩:=h1.fz hS
 obtain ⟨l2,e2⟩:=h2.fz hS
 simp only [List.map_cons,List.map_nil,e1,e2]; exact h l1 l2
theorem Xu {M:List AV→Prop} {S:St} {c1 c2 c3:AV} {f1 f2 f3:Bool→AV} (h1:CV 8 L false c1 f1) (h2:CV 8 L false c2 f2) (h3:CV 8 L false c3 f3) (hS:HP S L) (h:∀ l1 l2 l3,M [f1 l1,f2 l2,f3 l3]):M ([c1,c2,c3].map (fz S)):=by
 obtain ⟨l1,e1⟩:=h1.fz hS
 obtain ⟨l2,e2⟩:=h2.fz hS
 obtain ⟨l3,e3⟩:=h3.fz hS
 simp only [List.map_cons,List.map_nil,e1,e2,e3]; exact h l1 l2 l3
theorem Xt {M:List AV→Prop} {S:St} {c1 c2 c3 c4:AV} {f1 f2 f3 f4:Bool→AV} (h1:CV 8 L false c1 f1) (h2:CV 8 L false c2 f2) (h3:CV 8 L false c3 f3) (h4:CV 8 L false c4 f4) (hS:HP S L) (h:∀ l1 l2 l3 l4,M [f1 l1,f2 l2,f3 l3,f4 l4]):M ([c1,c2,c3,c4].map (fz S)):=by
 obtain ⟨l1,e1⟩:=h1.fz hS
 obtain ⟨l2,e2⟩:=h2.fz hS
 obtain ⟨l3,e3⟩:=h3.fz hS
 obtain ⟨l4,e4⟩:=h4.fz hS
 simp only [List.map_cons,List.map_nil,e1,e2,e3,e4]; exact h l1 l2 l3 l4
theorem BR {T:Type} {run:FuncId→List AV→St→Option (AV×St)} {g:FuncId} {args:List AV} {S:St} {E:T→AV} {mg:Option T} {t:T} (h:Fit (run g (args.map (fz S)) []) mg (P0 E)) (ht:mg = some t):Bt run g args S = some (E t,S):=by
 obtain ⟨⟨v,S1⟩,h1,h2⟩:=h t ht
 have h2:fzr S1 v = E t:=h2
 unfold Bt
 rw [h1]; simp only [h2]
theorem Jn {T:Type} {x:St→Option (AV×St)} {E:T→AV} {mg:Option T} {k:AV→St→Option ρ} {mk:T→Option τ} (h:∀ S t,mg = some t→x S = some (E t,S)) (hk:∀ t,mg = some t→Okh L (k (E t)) (mk t) P) :
  Okh L (fun S=>pe (x S) k) (mg.bind mk) P:=fun S hS=>by
 intro t ht
 rw [Option.bind_eq_some_iff] at ht
 obtain ⟨y,hy,hm⟩:=ht
 show ∃ r,pe (x S) k = some r∧_
 rw [h S y hy]
 exact hk y hy S hS t hm
theorem Am {T:Type} {v:AV} {f:Bool→AV} {E:T→AV} {t:T} (h:CV 8 L true v f) (he:f false = E t):Okh L (fun S=>some (v,S)) (some t) (P0 E):=fun S hS t' ht=>by
 injection ht with ht; subst ht
 exact ⟨_,rfl,(h.fzr hS).trans he⟩
theorem AI {T:Type} {x:St→Option AV} {v:AV} {f:Bool→AV} {E:T→AV} {t:T} (hx:∀ S,HP S L→x S = some v) (h:CV 8 L true v f) (he:f false = E t):Okh L (fun S=>(x S).map (·,S)) (some t) (P0 E):=fun S hS t' ht=>by
 injection ht with ht; subst ht
 exact ⟨(v,S),by show (x S).map (·,S) = _; rw [hx S hS]; rfl,(h.fzr hS).trans he⟩
theorem A4 {k:St→Option ρ}:Okh L k (none:Option τ) P:=fun _ _ _ h=>by cases h
end
inductive LO (σ:Type) where
 | norm (s:σ)
 | exit (i:Nat) (s:σ)
 | ret (s:σ)
def AB {σ:Type} (f:σ→Option (LO σ)):Nat→σ→Option (LO σ)
 | 0,_=>none
 | n + 1,s=>(f s).bind fun
  | .norm s=>AB f n s
  | .exit i s=>some (.exit i s)
  | .ret s=>some (.ret s)
def PS {σ:Type} (I:σ→List AV→List En→Prop):LO σ→Dn→Prop
 | .norm s,.norm l S=>∃ L,I s l L∧HP S L
 | .exit i s,.exit j l S=>i = j∧∃ L,I s l L∧HP S L
 | .ret s,.ret l S=>∃ L,I s l L∧HP S L
 | _,_=>False
section
variable {ρ τ σ:Type} {L:List En} {P:τ→ρ→Prop} {I:σ→List AV→List En→Prop}
theorem Ae {l:List AV} {s:σ} (k:Nat) (h:I s l (L.drop k)):Okh L (fun S=>some (Dn.norm l S)) (some (LO.norm s)) (PS I):=fun S hS t ht=>by
 injection ht with ht; subst ht
 exact ⟨_,rfl,_,h,hS.drop k⟩
theorem Ax {l:List AV} {s:σ} {i:Nat} (k:Nat) (h:I s l (L.drop k)):Okh L (fun S=>some (Dn.exit i l S)) (some (LO.exit i s)) (PS I):=fun S hS t ht=>by
 injection ht with ht; subst ht
 exact ⟨_,rfl,rfl,_,h,hS.drop k⟩
theorem Ar {l:List AV} {s:σ} (k:Nat) (h:I s l (L.drop k)):Okh L (fun S=>some (Dn.ret l S)) (some (LO.ret s)) (PS I):=fun S hS t ht=>by
 injection ht with ht; subst ht
 exact ⟨_,rfl,_,h,hS.drop k⟩
def Ak (mn:σ→Option τ) (me:Nat→σ→Option τ) (mr:σ→Option τ):LO σ→Option τ
 | .norm s=>mn s
 | .exit i s=>me i s
 | .ret s=>mr s
theorem DD {x:St→Option Dn} {ms:Option (LO σ)} {kn kr:List AV→St→Option ρ} {ke:Nat→List AV→St→Option ρ} {mn mr:σ→Option τ} {me:Nat→σ→Option τ} (hx:Okh L x ms (PS I))
  (hn:∀ s l L',I s l L'→Okh L' (kn l) (mn s) P) (he:∀ i s l L',I s l L'→Okh L' (ke i l) (me i s) P) (hr:∀ s l L',I s l L'→Okh L' (kr l) (mr s) P) :
  Okh L (fun S=>(x S).bind fun | .norm l S=>kn l S | .exit i l S=>ke i l S | .ret l S=>kr l S) (ms.bind (Ak mn me mr)) P:=fun S hS t ht=>by
 rw [Option.bind_eq_some_iff] at ht
 obtain ⟨o,ho,ht⟩:=ht
 obtain ⟨r,h1,h2⟩:=hx S hS o ho
 show ∃ r,(x S).bind _ = some r∧_
 rw [h1]
 cases o <;> cases r <;> simp only [PS] at h2
 ·obtain ⟨L',a,b⟩:=h2; exact hn _ _ _ a _ b t ht
 ·obtain ⟨rfl,L',a,b⟩:=h2; exact he _ _ _ _ a _ b t ht
 ·obtain ⟨L',a,b⟩:=h2; exact hr _ _ _ a _ b t ht
theorem QQ {step:List AV→St→Option Dn} {f:σ→Option (LO σ)} (hs:∀ s l L,I s l L→Okh L (step l) (f s) (PS I)):∀ (n:Nat) (s:σ) (l:List AV) (L:List En),I s l L→Okh L (fun S=>AW step n l S) (AB f n s) (PS I)
 | 0,s,l,L,_=>fun S hS t ht=>by cases ht
 | n + 1,s,l,L,h=>fun S hS t ht=>by
  simp only [AB,Option.bind_eq_some_iff] at ht
  obtain ⟨o,ho,ht⟩:=ht
  obtain ⟨r,h1,h2⟩:=hs s l L h S hS o ho
  show ∃ r,AW step (n + 1) l S = some r∧_
  simp only [AW,h1,Option.bind_some]
  cases o <;> cases r <;> simp only [PS] at h2
  ·obtain ⟨L',a,b⟩:=h2; exact QQ hs n _ _ _ a _ b t ht
  ·injection ht with ht; subst ht; exact ⟨_,rfl,h2⟩
  ·injection ht with ht; subst ht; exact ⟨_,rfl,h2⟩
theorem Cm {step:List AV→St→Option Dn} {f:σ→Option (LO σ)} {n:Nat} {s0:σ} {l0:List AV} {ke:Nat→List AV→St→Option ρ} {kr:List AV→St→Option ρ} {mr:σ→Option τ} {me:Nat→σ→Option τ} (k:Nat) (h0:I s0 l0 (L.drop k))
  (hs:∀ s l L',I s l L'→Okh L' (step l) (f s) (PS I)) (he:∀ i s l L',I s l L'→Okh L' (ke i l) (me i s) P) (hr:∀ s l L',I s l L'→Okh L' (kr l) (mr s) P) :
  Okh L (fun S=>(AW step n l0 S).bind fun | .norm _ _=>none | .exit i l S=>ke i l S | .ret l S=>kr l S) ((AB f n s0).bind (Ak (fun _=>none) me mr)) P:=
 DD (kn:=fun _ _=>none) (fun S hS=>QQ hs n s0 l0 _ h0 S (hS.drop k)) (fun _ _ _ _=>A4) he hr
theorem jM {c:Prop} [Decidable c] {x y:St→Option ρ} {m1 m2:Option τ} (h1:c→Okh L x m1 P) (h2:¬ c→Okh L y m2 P):Okh L (fun S=>if c then x S else y S) (if c then m1 else m2) P:=fun S hS=>by
 by_cases h:c
 ·simp only [h,if_true]; exact h1 h S hS
 ·simp only [h,if_false]; exact h2 h S hS
end
theorem HP.lda {S:St} {L:List En} (h:HP S L) {b o n:Nat} {cs cs':List AV} (i:Nat) (hL:L[i]? = some (bx b cs)) (hc:(cs.drop o).take n = cs') (hn:cs'.length = n:=by rfl):ldA S (.bp b 0 o n 1) n = some (.agg cs'):=by
 simp [ldA,h.cells hL,hc,hn]
theorem HP.ld {S:St} {L:List En} (h:HP S L) {b o n:Nat} {cs:List AV} {c:AV} (i:Nat) (hL:L[i]? = some (bx b cs)) (hc:(cs.drop o).take n = [c]):ld1 S (.bp b 0 o n 1) = some c:=by
 simp [ld1,h.cells hL,hc]
theorem HP.cell1 {α:Type} [Enc α] {S:St} {L:List En} (h:HP S L) {l:Bool} {v:AV} {xs:List α} (i:Nat) (hL:L[i]? = some (sl l v xs)):AK v = [v]:=by
 rcases h.get hL with ⟨rfl,rfl⟩ | ⟨b,fl,pl,rfl,_,_⟩ <;> rfl
def wi (k:IntKind) (n:Int):Int:=k.wrap n
def Kq (x y:Int):Int:=if y > x then y else x
def Yr (x y:Int):Int:=if y < x then y else x
theorem aJ {k:IntKind} {x y:Int}:Go.Rf.amax false [.int k x,.int k y] = some (.int k (Kq x y)):=by simp [Go.Rf.amax,Kq]
theorem n7 {k:IntKind} {x y:Int}:Go.Rf.amax true [.int k x,.int k y] = some (.int k (Yr x y)):=by simp [Go.Rf.amax,Yr]
theorem LF (a:Str):(ByteArray.mk a.toArray).toList = a:=by
 rw [ByteArray.toList_eq]
section
variable {P:Program} {t:TypeId} {a b:Str}
theorem Js:D1 P .eql t (AY a) (AY b) = some (.bool (a == b)):=by simp [D1,AY]
theorem QI:D1 P .neq t (AY a) (AY b) = some (.bool !(a == b)):=by simp [D1,AY]
theorem Yb:D1 P .leq t (AY a) (AY b) = some (.bool (Op.bytesLess a b || a == b)):=by simp [D1,AY]
theorem JD:HA P .eql t (AY a) (AY b) = some (.bool (a == b)):=Js (P:=P) (t:=t)
theorem U5:HA P .leq t (AY a) (AY b) = some (.bool (Op.bytesLess a b || a == b)):=Yb (P:=P) (t:=t)
end
section
variable {ρ τ:Type} {L:List En} {m:Option τ} {P:τ→ρ→Prop}
theorem DN (α:Type) [Enc α] (l:Bool) {k:St→Option ρ} (hk:Okh (sl l (.rsl false true []) ([]:List α)::L) k m P):Okh L k m P:=fun S hS=>
 hk S (hS.new (fun _ _=>rfl) (fun i hi=>by cases hi) (.inl ⟨rfl,rfl⟩))
theorem DX {a:Str} {k:AV→St→Option ρ} (hk:Okh L (k (.int .i64 (a.length:Int))) m P):Okh L (fun S=>pk (FD (AY a)) S fun r=>k r S) m P:=
 q_p (x:=fun _=>FD (AY a)) (fun _=>rfl) hk
theorem I6 {a:Str} {kk:IntKind} {i:Int} {k:AV→St→Option ρ} {mk:UInt8→Option τ} (hk:∀ c,Av a i = some c→Okh L (k (.int .u8 c.toNat)) (mk c) P):Okh L (fun S=>pk (Cj (AY a) (.int kk i)) S fun r=>k r S) ((Av a i).bind mk) P:=fun S hS=>by
 intro y hy
 rw [Option.bind_eq_some_iff] at hy
 obtain ⟨c,hc,hm⟩:=hy
 have h1:Cj (AY a) (.int kk i) = some (.int .u8 c.toNat):=by
  unfold Av at hc
  split at hc <;> try (cases hc; done)
  rename_i h0
  have:(ByteArray.mk a.toArray)[i.toNat]? = some c:=by
   have hlt:i.toNat < a.length:=(List.getElem?_eq_some_iff.1 hc).1
   have he:=(List.getElem?_eq_some_iff.1 hc).2
   rw [getElem?_pos (ByteArray.mk a.toArray) i.toNat hlt]
   congr 1
  simp [Cj,AY,h0,this]
 show ∃ r,pk (Cj (AY a) (.int kk i)) S (fun r=>k r S) = some r∧_
 rw [h1]
 exact hk c hc S hS y hm
end
theorem Hq {ρ τ:Type} {L:List En} {m:Option τ} {P:τ→ρ→Prop} {G:Program} {t e:TypeId} {α:Type} {f:α→List AV} {l fl:Bool} {xs:List α} {x y:St→Option ρ} (hu:G.underlying t = some (.slice e))
  (h:xs = []→∀ S,x S = y S) (hy:Okh L y m P):Okh L (fun S=>pk (Ec G t (.rsl l fl (xs.map f))) S fun r=>ifA r (x S) (y S)) m P:=fun S hS=>by
 cases xs with
 | nil=>
  have h1:Ec G t (.rsl l fl (([]:List α).map f)) = some .ub:=by simp [Ec,hu]
  show Fit (pk (Ec G t (.rsl l fl (([]:List α).map f))) S fun r=>ifA r (x S) (y S)) m P
  rw [h1]
  simp only [pk,Option.map_some,ifA]
  rw [OP (h rfl S),h rfl S]
  exact hy S hS
 | cons a r=>
  have h1:Ec G t (.rsl l fl ((a::r).map f)) = some (.bool false):=by simp [Ec,hu]
  show Fit (pk (Ec G t (.rsl l fl ((a::r).map f))) S fun r=>ifA r (x S) (y S)) m P
  rw [h1]
  exact hy S hS
def elP (sz:Nat):AV→Nat→AV
 | .bsl b i0 _ L _,i=>.bp b (i0 + i) 0 sz L
 | _,_=>.non
section
variable {ρ τ:Type} {L:List En} {m:Option τ} {P:τ→ρ→Prop} {α:Type} [e:Enc α] {l:Bool} {v:AV} {xs:List α} {n:Nat}
theorem HP.boxed {S:St} (h:HP S L) {i:Nat} (hL:L[i]? = some (sl l v xs)) (hp:0 < xs.length):∃ b fl pl,v = .bsl b 0 xs.length xs.length fl∧S[b]? = some ⟨e.sz,xs.map (e.cs l),pl⟩∧(pl = true→(xs.map (e.cs l)).all (·.all AC) = true):=by
 rcases h.get hL with ⟨_,rfl⟩ | h
 ·simp at hp
 ·exact h
theorem DU {α:Type} {xs:List α} {i:Int} {x:α} (h:Av xs i = some x):0≤i∧i.toNat < xs.length∧xs[i.toNat]? = some x:=by
 unfold Av at h
 split at h <;> try (cases h; done)
 rename_i h0
 exact ⟨h0,(List.getElem?_eq_some_iff.1 h).1,h⟩
theorem G0 {kk:IntKind} {i:Int} {k:AV→St→Option ρ} {mk:α→Option τ} (j:Nat) (hL:L[j]? = some (sl l v xs)) (hn:e.sz = n) (hk:∀ x,Av xs i = some x→Okh L (k (elP n v i.toNat)) (mk x) P) :
  Okh L (fun S=>pk (B8 n v (.int kk i) S) S fun r=>k r S) ((Av xs i).bind mk) P:=fun S hS=>by
 intro t ht
 rw [Option.bind_eq_some_iff] at ht
 obtain ⟨x,hx,hm⟩:=ht
 obtain ⟨h0,h1,h2⟩:=DU hx
 obtain ⟨b,fl,pl,rfl,q1,q2⟩:=hS.boxed hL (by omega)
 have hp:B8 n (.bsl b 0 xs.length xs.length fl) (.int kk i) S = some (elP n (.bsl b 0 xs.length xs.length fl) i.toNat):=by
  simp only [B8,elP]
  rw [if_pos ⟨h0,by omega⟩,q1]
  simp [hn]
 show ∃ r,pk (B8 n (.bsl b 0 xs.length xs.length fl) (.int kk i) S) S (fun r=>k r S) = some r∧_
 rw [hp]
 exact hk x hx S hS t hm
theorem HP.elem {S:St} (h:HP S L) {j:Nat} (hL:L[j]? = some (sl l v xs)) (hn:e.sz = n) {i:Int} {x:α} (hx:Av xs i = some x):BY S (elP n v i.toNat) = some (e.cs l x):=by
 obtain ⟨h0,h1,h2⟩:=DU hx
 obtain ⟨b,fl,pl,rfl,q1,q2⟩:=h.boxed hL (by omega)
 simp only [elP,BY,q1,List.length_map,if_true,Nat.zero_add,List.getElem?_map,h2,Option.map_some,List.drop_zero]
 rw [← hn,List.take_of_length_le (by rw [e.len]; exact Nat.le_refl _)]
theorem HO {i:Int} {x:α} {c:AV} {k:AV→St→Option ρ} (j:Nat) (hL:L[j]? = some (sl l v xs)) (hx:Av xs i = some x) (hc:e.cs l x = [c]) (hk:Okh L (k c) m P):Okh L (fun S=>pk (ld1 S (elP 1 v i.toNat)) S fun r=>k r S) m P:=
 GU (x:=fun S=>ld1 S (elP 1 v i.toNat)) (fun S hS=>by
  have h1:e.sz = 1:=by have:=e.len l x; rw [hc] at this; exact this.symm
  simp [ld1,hS.elem hL h1 hx,hc]) hk
theorem JJ {i:Int} {x y:α} {a:AV} {k:AV→St→Option ρ} (j:Nat) (hL:L[j]? = some (sl l v xs)) (hn:e.sz = n) (hx:Av xs i = some x) (hy:AK a = e.cs l y) (h0:n≠0) (hk:Okh (L.set j (sl l v (xs.set i.toNat y))) (k und) m P) :
  Okh L (fun S=>pe (Aj n (elP n v i.toNat) a S) k) m P:=fun S hS=>by
 obtain ⟨h1,h2,h3⟩:=DU hx
 obtain ⟨b,fl,pl,rfl,q1,q2⟩:=hS.boxed hL (by omega)
 subst hn
 have hb:b < S.length:=(List.getElem?_eq_some_iff.1 q1).1
 have hput:BL (e.cs l x) 0 (e.cs l y) = e.cs l y:=by simp [BL,e.len]
 have hst:Aj e.sz (elP e.sz (.bsl b 0 xs.length xs.length fl) i.toNat) a S = some (und,S.set b ⟨e.sz,(xs.set i.toNat y).map (e.cs l),pl && (e.cs l y).all AC⟩):=by
  unfold Aj
  rw [hy,if_pos ⟨e.len _ _,h0⟩]
  simp only [elP,stA,q1,List.length_map,Nat.zero_add,e.len,and_self,if_true,List.getElem?_map,h3,Option.map_some,hput]
  rw [List.map_set]
 show Fit (pe (Aj e.sz (elP e.sz (.bsl b 0 xs.length xs.length fl) i.toNat) a S) k) m P
 rw [hst]
 refine hk _ (hS.upd hL (fun j hj _=>List.getElem?_set_ne (by rintro rfl; exact hj (by simp [sl,idS]))) (fun j hj=>.inl (by simpa [sl,idS] using hj)) (.inr ⟨b,fl,pl && (e.cs l y).all AC,by simp,by rw [List.getElem?_set_self hb],fun hp=>?_⟩))
 simp only [Bool.and_eq_true] at hp
 rw [List.all_map,List.all_eq_true]
 intro z hz
 rcases List.mem_or_eq_of_mem_set hz with h | h
 ·have:=q2 hp.1
  rw [List.all_map,List.all_eq_true] at this
  exact this z h
 ·subst h; exact hp.2
theorem F9 {b o:Nat} {x:AV} {cs:List AV} {k:AV→St→Option ρ} (i:Nat) (hL:L[i]? = some (bx b cs)) (hx:∀ S,HP S L→AK x = [x]) (hl:(BL cs o [x]).length = cs.length)
  (hk:Okh (L.set i (bx b (BL cs o [x]))) (k und) m P):Okh L (fun S=>pe (Aj 1 (.bp b 0 o 1 1) x S) k) m P:=fun S hS=>
 A6 i hL (hx S hS) rfl (by simp) hl hk S hS
def mkO {α:Type} (by_:Nat) (n:Int) (z:α):Option (List α):=if 0≤n∧(n.toNat + 1) * (by_ + 1)≤70368744177664 then some (List.replicate n.toNat z) else none
theorem q_mk {by_:Nat} {i:Int} {z:α} {k:AV→St→Option ρ} {mk:List α→Option τ} {G:Program} {t:TypeId}
  (hm:∀ (S:St) (n:Nat),(n + 1) * (by_ + 1)≤70368744177664→Hh G t (.int .i64 n) (.int .i64 n) S = some (.bsl S.length 0 n n true,S++[⟨e.sz,List.replicate n (e.cs false z),(e.cs false z).all AC⟩]))
  (hk:∀ v xs,mkO by_ i z = some xs→Okh (sl false v xs::L) (k v) (mk xs) P):Okh L (fun S=>pe (Hh G t (.int .i64 i) (.int .i64 i) S) k) ((mkO by_ i z).bind mk) P:=fun S hS=>by
 intro y hy
 rw [Option.bind_eq_some_iff] at hy
 obtain ⟨zs,hzs,hmm⟩:=hy
 have hzs0:=hzs
 unfold mkO at hzs
 split at hzs <;> try (cases hzs; done)
 rename_i hb
 injection hzs with hzs; subst hzs
 have h1:=hm S i.toNat hb.2
 rw [Int.toNat_of_nonneg hb.1] at h1
 show ∃ r,pe (Hh G t (.int .i64 i) (.int .i64 i) S) k = some r∧_
 rw [h1]
 refine hk _ _ hzs0 _ (hS.new (fun j hj=>List.getElem?_append_left hj) (fun j hj=>by simp [sl,idS] at hj; omega) (.inr ⟨S.length,true,(e.cs false z).all AC,by simp,by simp,fun hz=>?_⟩)) y hmm
 rw [List.map_replicate,List.all_eq_true]
 intro c hc
 rw [(List.mem_replicate.1 hc).2]; exact hz
end
def plc (l:List (Nat×Nat)) (i:Nat):Option (Nat×Nat):=l[i]?
def P2 {τ:Type} (E:τ→AV) (F:τ→List En) (t:τ) (r:AV×St):Prop:=r.1 = E t∧HP r.2 (F t)
theorem HP.sel {S:St} {L:List En} (h:HP S L) (n:Nat) (ks:List Nat) (hn:ks.Nodup) (hb:ks.all (· < n) = true):HP S (ks.filterMap (L[·]?)++L.drop n):=by
 have hp:=List.pairwise_iff_getElem.1 h.2
 have dj:∀ (a b:Nat) (x y:En),a≠b→L[a]? = some x→L[b]? = some y→∀ i∈x.ids,i ∉ y.ids:=by
  intro a b x y hab hx hy i hi hj
  obtain ⟨ha,rfl⟩:=List.getElem?_eq_some_iff.1 hx
  obtain ⟨hb,rfl⟩:=List.getElem?_eq_some_iff.1 hy
  rcases Nat.lt_or_gt_of_ne hab with q | q
  ·exact hp a b ha hb q i hi hj
  ·exact hp b a hb ha q i hj hi
 refine ⟨fun e he=>?_,List.pairwise_append.2 ⟨?_,h.2.sublist (List.drop_sublist n L),fun x hx y hy=>?_⟩⟩
 ·rcases List.mem_append.1 he with he | he
  ·obtain ⟨k,_,hk⟩:=List.mem_filterMap.1 he
   exact h.1 e (List.mem_of_getElem? hk)
  ·exact h.1 e (List.mem_of_mem_drop he)
 ·rw [List.pairwise_filterMap]
  exact hn.imp fun {a b} hab x hx y hy=>dj a b x y hab hx hy
 ·obtain ⟨k,hk1,hk⟩:=List.mem_filterMap.1 hx
  have hkn:k < n:=by simpa using List.all_eq_true.1 hb k hk1
  obtain ⟨j,hj,rfl⟩:=List.mem_iff_getElem.1 hy
  rw [List.getElem_drop]
  have hj':n + j < L.length:=by simp at hj; omega
  exact dj k (n + j) x _ (by omega) hk (List.getElem?_eq_getElem hj')
section
variable {ρ τ:Type} {L:List En} {m:Option τ} {P:τ→ρ→Prop}
theorem Dt (n:Nat) (ks:List Nat) (hn:ks.Nodup) (hb:ks.all (· < n) = true) {k:St→Option ρ} (hk:Okh (ks.filterMap (L[·]?)++L.drop n) k m P):Okh L k m P:=fun S hS=>hk S (hS.sel n ks hn hb)
theorem q_s {T:Type} {run:FuncId→List AV→St→Option (AV×St)} {g:FuncId} {args:List AV} {E:T→AV} {F:T→List En} {mg:Option T} {k:AV→St→Option ρ} {mk:T→Option τ} (hf:Okh L (fun S=>run g args S) mg (P2 E F)) (hk:∀ t,mg = some t→Okh (F t) (k (E t)) (mk t) P) :
  Okh L (fun S=>pe (Bc run g args S) k) (mg.bind mk) P:=fun S hS=>by
 intro t ht
 rw [Option.bind_eq_some_iff] at ht
 obtain ⟨y,hy,hm⟩:=ht
 obtain ⟨⟨v,S1⟩,h1,h2,h3⟩:=hf S hS y hy
 have h2:v = E y:=h2
 subst h2
 show ∃ r,pe (Bc run g args S) k = some r∧_
 unfold Bc
 have h1:run g args S = some (E y,S1):=h1
 rw [h1]
 exact hk y hy S1 h3 t hm
theorem I8 {T:Type} {v:AV} {E:T→AV} {F:T→List En} {t:T} (n:Nat) (hv:v = E t) (hF:L.drop n = F t):Okh L (fun S=>some (v,S)) (some t) (P2 E F):=fun S hS t' ht=>by
 injection ht with ht; subst ht
 exact ⟨_,rfl,hv,hF ▸ hS.drop n⟩
def shlI (k:IntKind) (x y:Int):Int:=k.wrap (x * 2 ^ (min y.toNat k.bits))
def I0 (k:IntKind) (x y:Int):Int:=x.fdiv (2 ^ (min y.toNat k.bits))
def andI (k:IntKind) (x y:Int):Int:=k.wrap ((BitVec.ofInt k.bits x &&& BitVec.ofInt k.bits y).toNat)
def orI (k:IntKind) (x y:Int):Int:=k.wrap ((BitVec.ofInt k.bits x ||| BitVec.ofInt k.bits y).toNat)
def xorI (k:IntKind) (x y:Int):Int:=k.wrap ((BitVec.ofInt k.bits x ^^^ BitVec.ofInt k.bits y).toNat)
def shlO (k:IntKind) (x y:Int):Option Int:=if y < 0 then none else some (shlI k x y)
def shrO (k:IntKind) (x y:Int):Option Int:=if y < 0 then none else some (I0 k x y)
end
@[reducible] def Enc.copy {α:Type} (a:Enc α) (cs:Bool→α→List AV) (h:∀ l x,cs l x = a.cs l x) (sz dp:Nat) (hs:sz = a.sz) (hd:dp = a.dp):Enc α where
 sz:=sz
 dp:=dp
 cs:=cs
 len l x:=by rw [h,hs]; exact a.len l x
 inn l q x:=by rw [h]; exact a.inn l q x
 nrm l l' x k hk:=by rw [h,h]; exact a.nrm l l' x k (by omega)
 frz l x brw S k hk:=by rw [h]; exact a.frz l x brw S k hk
 ltd x k hk:=by rw [h]; exact a.ltd x k (by omega)
theorem up {n d:Nat} (h:n + 1≤d):∃ e,d = e + 1∧n≤e:=⟨d - 1,by omega,by omega⟩
theorem rr {α β:Type} {a:α} {b:β}:a = a∧b = b:=⟨rfl,rfl⟩
abbrev PI:Int→AV×St→Prop:=P0 fun t=>AV.int .i64 t
abbrev PB:Bool→AV×St→Prop:=P0 fun t=>AV.bool t
section
variable {ρ τ:Type} {L:List En} {m m1 m2:Option τ} {P:τ→ρ→Prop}
theorem q_i {b:Bool} {x y:St→Option ρ} (h1:Okh L x m1 P) (h2:Okh L y m2 P):Okh L (fun S=>ifA (.bool b) (x S) (y S)) (bif b then m1 else m2) P:=cS (fun _=>h1) fun _=>h2
theorem q_k {b:Bool} {x y:St→Option ρ} (h1:Okh L x m1 P) (h2:Okh L y m2 P):Okh L (fun S=>An (.bool b) true (x S) (y S)) (bif b then m1 else m2) P:=q_gT (fun _=>h1) fun _=>h2
theorem q_j {b:Bool} {x y:St→Option ρ} (h1:Okh L y m1 P) (h2:Okh L x m2 P):Okh L (fun S=>An (.bool b) false (x S) (y S)) (bif b then m1 else m2) P:=q_gF (fun _=>h1) fun _=>h2
theorem q_n {c:Prop} [Decidable c] {x y:St→Option ρ} (h1:Okh L x m1 P) (h2:Okh L y m2 P):Okh L (fun S=>if c then x S else y S) (if c then m1 else m2) P:=jM (fun _=>h1) fun _=>h2
end
section
variable {ρ τ σ:Type} {L:List En} {P:τ→ρ→Prop} {A:σ→List AV} {B:σ→List En}
abbrev IE (A:σ→List AV) (B:σ→List En):σ→List AV→List En→Prop:=fun s l L=>l = A s∧L = B s
theorem CU {step:List AV→St→Option Dn} {f:σ→Option (LO σ)} {n:Nat} {s0:σ} {l0:List AV} {ke:Nat→List AV→St→Option ρ} {kr:List AV→St→Option ρ} {mr:σ→Option τ} {me:Nat→σ→Option τ} (k:Nat) (h0:l0 = A s0∧L.drop k = B s0)
  (hs:∀ s,Okh (B s) (step (A s)) (f s) (PS (IE A B))) (he:∀ i s,Okh (B s) (ke i (A s)) (me i s) P) (hr:∀ s,Okh (B s) (kr (A s)) (mr s) P) :
  Okh L (fun S=>(AW step n l0 S).bind fun | .norm _ _=>none | .exit i l S=>ke i l S | .ret l S=>kr l S) ((AB f n s0).bind (Ak (fun _=>none) me mr)) P:=
 Cm (I:=IE A B) k h0 (by rintro s _ _ ⟨rfl,rfl⟩; exact hs s) (by rintro i s _ _ ⟨rfl,rfl⟩; exact he i s) (by rintro s _ _ ⟨rfl,rfl⟩; exact hr s)
theorem Bo {x:St→Option Dn} {ms:Option (LO σ)} {kn kr:List AV→St→Option ρ} {ke:Nat→List AV→St→Option ρ} {mn mr:σ→Option τ} {me:Nat→σ→Option τ} (hx:Okh L x ms (PS (IE A B)))
  (hn:∀ s,Okh (B s) (kn (A s)) (mn s) P) (he:∀ i s,Okh (B s) (ke i (A s)) (me i s) P) (hr:∀ s,Okh (B s) (kr (A s)) (mr s) P) :
  Okh L (fun S=>(x S).bind fun | .norm l S=>kn l S | .exit i l S=>ke i l S | .ret l S=>kr l S) (ms.bind (Ak mn me mr)) P:=
 DD (I:=IE A B) hx (by rintro s _ _ ⟨rfl,rfl⟩; exact hn s) (by rintro i s _ _ ⟨rfl,rfl⟩; exact he i s) (by rintro s _ _ ⟨rfl,rfl⟩; exact hr s)
end
end Go.Rf
