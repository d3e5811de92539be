/- slices.Insert at the end of a copy. -/
import Derived.Test.YthbiabieiopobaaGreatDoorRh14
set_option linter.unusedVariables false
set_option linter.unusedSimpArgs false
namespace Go.Rf
open Go
def YB {α:Type} (by_:Nat) (xs:List α) (i:Int) (ys:List α):Option (List α):=match ys with
 | [y]=>if i = xs.length then Bw by_ xs [y] else none
 | _=>none
section
variable {α ρ τ:Type} [e:Enc α] {L:List En} {m:Option τ} {P:τ→ρ→Prop}
theorem Vo {xs:List α} {l fl:Bool} {k:St→Option ρ} (hk:Okh (wls [] (.rsl l fl (xs.map (e.cs l))) xs::L) k m P):Okh L k m P:=fun S hS=>hk S (hS.new (fun _ _=>rfl) (fun i hi=>by cases hi) (.inl ⟨l,fl,rfl,rfl⟩))
theorem ZR {ids:List Nat} {v:AV} {xs ys:List α} {i:Int} {l fl:Bool} {n by_:Nat} {G:Program} {t3:TypeId} {rest:AV→AV→AV→St→Option (AV×St)} (hn:e.sz = n)
  (h1:D1 G .eql t3 (.int .i64 1) (.int .i64 0) = some (.bool false)) (h2:∀ a b:Int,HA G .eql t3 (.int .i64 a) (.int .i64 b) = some (.bool (a == b))) :
  Okh (wla ids v xs::L) (fun S=>pq (Be n v (some (.int .i64 i)) none none S) fun r1=>pk (Fe (.rsl l fl (ys.map (e.cs l)))) S fun r2=>pk (D1 G .eql t3 r2 (.int .i64 0)) S fun r3=>ifA r3 (some (v,S)) (pk (Fe v) S fun r4=>pk (HA G .eql t3 (.int .i64 i) r4) S fun r5=>ifA r5 (pe (BJ n by_ v (.rsl l fl (ys.map (e.cs l))) S) fun r6 S6=>some (r6,S6)) (rest r1 r2 r4 S))) (YB by_ xs i ys) (P5 (fun (x:List Nat×AV) (t:List α)=>x.2) (fun (x:List Nat×AV) (t:List α)=>wla x.1 x.2 t::L)):=fun S hS z hz=>by
 unfold YB at hz
 rcases ys with _ | ⟨y,_ | ⟨_,_⟩⟩
 ·cases hz
 rotate_left
 ·cases hz
 ·dsimp only at hz
  by_cases hi:i = xs.length
  rotate_left
  ·simp only [if_neg hi] at hz; cases hz
  simp only [if_pos hi] at hz
  subst hi
  have hlen:Fe v = some (.int .i64 xs.length):=by
   rcases (hS.get (k:=0) rfl:(wla ids v xs).ok S) with ⟨rfl,rfl,_⟩ | ⟨b,fl',pl,es,is,rfl,_⟩ <;> rfl
  have hsl:∃ r,Be n v (some (.int .i64 xs.length)) none none S = some (r,S):=by
   rcases (hS.get (k:=0) rfl:(wla ids v xs).ok S) with ⟨rfl,rfl,_⟩ | ⟨b,fl',pl,es,is,rfl,q1,q2,q3,_⟩
   ·exact ⟨_,rfl⟩
   ·have hl:=q3.len
    subst hn
    simp [Be,E8,Dz,q1,hl]
  obtain ⟨r,hr⟩:=hsl
  have key:=QS (L:=L) (ids:=ids) (v:=v) (xs:=xs) (y:=y) (l:=l) (fl':=fl) (by_:=by_) (n:=n) (k:=fun r6 S6=>some (r6,S6)) (mk:=fun z=>some z) (P:=P5 (fun (x:List Nat×AV) (t:List α)=>x.2) (fun (x:List Nat×AV) (t:List α)=>wla x.1 x.2 t::L)) hn (fun z _ v' ids'=>AU (ids',v') 0 rfl rfl) S hS z (by rw [hz]; rfl)
  obtain ⟨q,k1,k2⟩:=key
  refine ⟨q,?_,k2⟩
  have e1:Fe (.rsl l fl ([y].map (e.cs l))) = some (.int .i64 1):=rfl
  exact Ob hr (BN e1 (BN h1 (W8 (fun h=>by cases h) fun _=>BN hlen (BN ((h2 _ _).trans (by rw [beq_self_eq_true])) (W8 (fun _=>k1) fun h=>by cases h)))))
theorem SX {l:Bool} {j:Nat} {v:AV} (hj:0 < j) (h:AC (nrm l j v) = true):AC v = true:=by
 obtain ⟨j,rfl⟩:∃ i,j = i + 1:=⟨j - 1,by omega⟩
 cases v <;> first | rfl | (simp [nrm,AC] at h)
theorem Vf {S:St} {brw:Bool} {k:Nat} (hp:∀ x:α,(e.cs true x).all AC = true) (hk:e.dp < k):∀ {es:List (List AV)} {xs:List α} {is:List (List Nat)},B0 (wrk S) es xs is→(es.map (·.map (frz brw S k))).all (·.all AC) = true
 | [],[],[],_=>rfl
 | c::es,x::xs,i::is,h=>by
  rw [List.map_cons,List.all_cons,Bool.and_eq_true]
  refine ⟨?_,Vf hp hk h.2⟩
  have h1:=h.1.2.2 S (fun _ _=>rfl) brw k (e.dp + 1) true hk (by omega)
  have h2:=hp x
  rw [← h1,List.all_eq_true] at h2
  rw [List.all_eq_true]
  intro y hy
  exact SX (Nat.succ_pos _) (h2 _ (List.mem_map_of_mem hy))
theorem Qs {n:Nat} {L:List En} {ids:List Nat} {v:AV} {xs:List α} (i:Nat) (hL:L[i]? = some (wla ids v xs)) (hp:∀ x:α,(e.cs true x).all AC = true) (hn:e.dp + 2≤n:=by decide):CV n L true v (fun l=>.rsl l false (xs.map (e.cs l))):=fun S hS=>by
 refine ⟨fun brw k j l hk hj=>(DZ i hL hn S hS).1 brw k j l hk hj,fun _ k j hk hj=>?_⟩
 obtain ⟨k,rfl⟩:∃ j,k = j + 1:=⟨k - 1,by omega⟩
 obtain ⟨j,rfl⟩:∃ i,j = i + 1:=⟨j - 1,by omega⟩
 rcases hS.get hL with ⟨rfl,rfl,_⟩ | ⟨b,fl,pl,es,is,rfl,h2,h3,h4,_,_⟩
 ·rfl
 ·have hle:=h4.len.1
  have key:=Vf (brw:=false) (k:=k) hp (by omega) h4
  have hno:∀ (es:List (List AV)),es.all (·.all AC) = true→es.any (·.any (ltD j)) = false:=fun es h=>by
   rw [List.any_eq_false]; intro y hy hh
   rw [List.any_eq_true] at hh
   obtain ⟨z,hz,h5⟩:=hh
   rw [GN (List.all_eq_true.1 (List.all_eq_true.1 h y hy) z hz) (by omega)] at h5
   cases h5
  simp only [frz,h2,hle,if_true,List.drop_zero]
  rw [← hle,List.take_length]
  cases pl
  ·simp only [Bool.false_eq_true,if_false,ltD,Bool.false_or]
   rw [hno _ key,Bool.or_false,List.any_eq_false]
   intro y hy hh
   rw [List.any_eq_true] at hh
   obtain ⟨z,hz,h5⟩:=hh
   have:=List.all_eq_true.1 (List.all_eq_true.1 key y hy) z hz
   cases z <;> simp [AC] at this <;> cases h5
  ·simp only [if_true,ltD,Bool.false_or]
   exact hno _ (h3 rfl)
theorem NU (cs:List AV):Br.rfreeL cs = cs.all Br:=by
 induction cs with
 | nil=>rfl
 | cons c cs ih=>simp [Br.rfreeL,ih]
theorem O5 {S:St} (b b':Bool):∀ (k:Nat) (v:AV),Br v = true→frz b S k v = frz b' S k v
 | 0,_,_=>rfl
 | k + 1,v,h=>by
  have hl:∀ cs:List AV,Br.rfreeL cs = true→cs.map (frz b S k) = cs.map (frz b' S k):=fun cs h=>by
   rw [NU,List.all_eq_true] at h
   exact List.map_congr_left fun x hx=>O5 b b' k x (h x hx)
  cases v <;> simp only [Br] at h <;> first | rfl | (cases h; done) | (simp only [frz,hl _ h])
theorem RL {L:List En} {c:AV} {f:Bool→AV} {S:St} (h:CV 8 L true c f) (hr:Br c = true) (hS:HP S L):fz S c = f false:=by
 show nrm (ltD 8 (frz true S 8 c)) 8 (frz true S 8 c) = _
 rw [O5 true false 8 c hr,(h S hS).2 rfl 8 8 (by decide) (by decide)]
 exact (h S hS).1 false 8 8 false (by decide) (by decide)
theorem nU {L:List En} {T:Type} {run:CW} {g:FuncId} {mt:Option T} {Pt:T→AV×St→Prop} {S:St} {c1 c2:AV} {f1 f2:Bool→AV} (h1:CV 8 L true c1 f1) (r1:Br c1 = true) (h2:CV 8 L false c2 f2) (hS:HP S L) (h:∀ l2,Fit (run g [f1 false,f2 l2] []) mt Pt):Fit (run g ([c1,c2].map (fz S)) []) mt Pt:=by
 obtain ⟨l2,e2⟩:=h2.fz hS
 simp only [List.map_cons,List.map_nil,RL h1 r1 hS,e2]; exact h l2
theorem nT {L:List En} {T:Type} {run:CW} {g:FuncId} {mt:Option T} {Pt:T→AV×St→Prop} {S:St} {c1 c2 c3:AV} {f1 f2 f3:Bool→AV} (h1:CV 8 L true c1 f1) (r1:Br c1 = true) (h2:CV 8 L false c2 f2) (h3:CV 8 L false c3 f3) (hS:HP S L) (h:∀ l2 l3,Fit (run g [f1 false,f2 l2,f3 l3] []) mt Pt):Fit (run g ([c1,c2,c3].map (fz S)) []) mt Pt:=by
 obtain ⟨l2,e2⟩:=h2.fz hS
 obtain ⟨l3,e3⟩:=h3.fz hS
 simp only [List.map_cons,List.map_nil,RL h1 r1 hS,e2,e3]; exact h l2 l3
end
end Go.Rf
