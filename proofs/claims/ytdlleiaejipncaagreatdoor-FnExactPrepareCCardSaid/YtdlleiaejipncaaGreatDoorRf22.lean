/- La of the evaluator on boxes, as lemmas. -/
import Derived.Test.YtdlleiaejipncaaGreatDoorRf21
set_option linter.unusedVariables false
set_option linter.unusedSimpArgs false
namespace Go.Rf
open Go
theorem Es {P:Program} {t e:TypeId} {sz by_ n:Nat} {z:List AV} {S:St} (hu:P.underlying t = some (.slice e)) (hi:(P.info? e).map (fun i=>(i.size,i.bytes)) = some (sz,by_)) {z0:List AV} {pl:Bool} (hz:Ee P e = some z0) (hz0:z0.map (nrm false 2) = z) (hl:z.length = sz) (hp:0 < sz) (hlt:z0.all (fun c=>!ltD 2 c) = true) (hpl:z.all A6 = pl)
  (hb:(n + 1) * (by_ + 1)≤70368744177664):Cq P t (.int .i64 n) (.int .i64 n) S = some (.bsl S.length 0 n n true,S++[⟨sz,List.replicate n z,pl⟩]):=by
 cases hi':P.info? e with
 | none=>rw [hi'] at hi; cases hi
 | some i=>
  rw [hi'] at hi
  simp only [Option.map_some,Option.some.injEq,Prod.mk.injEq] at hi
  obtain ⟨h1,h2⟩:=hi
  unfold Cq
  rw [hu]
  dsimp only
  rw [hi',hz]
  dsimp only
  have hl0:z0.length = sz:=by rw [← hl,← hz0,List.length_map]
  have hc:(0:Int)≤(n:Int)∧(n:Int) = (n:Int)∧((n:Int).toNat + 1) * (i.bytes + 1)≤70368744177664∧z0.length = i.size∧0 < i.size∧z0.all (fun c=>!ltD 2 c) = true:=⟨by omega,rfl,by rw [h2]; simpa using hb,by rw [h1]; exact hl0,by rw [h1]; exact hp,hlt⟩
  rw [if_pos hc,h1,hz0,hpl]
  simp
theorem SJ {α β:Type} {f:α→β} {xs:List α} {i:Nat} {x:α} {z:β} (h:xs[i]? = some x):((xs.take i).map f++List.replicate (xs.length - i) z).set i (f x) = (xs.take (i + 1)).map f++List.replicate (xs.length - (i + 1)) z:=by
 have hi:i < xs.length:=(List.getElem?_eq_some_iff.1 h).1
 have hlen:((xs.take i).map f).length = i:=by simp; omega
 rw [List.set_append_right _ _ (by omega),hlen,Nat.sub_self]
 obtain ⟨k,hk⟩:∃ k,xs.length - i = k + 1:=⟨xs.length - i - 1,by omega⟩
 rw [hk,List.replicate_succ,List.set_cons_zero,show xs.length - (i + 1) = k by omega]
 rw [List.take_add_one,h]
 simp
theorem W3 {α β:Type} {f:α→β} {xs:List α} {i:Nat} {z:β} (hi:i < xs.length):((xs.take i).map f++List.replicate (xs.length - i) z)[i]? = some z:=by
 have hlen:((xs.take i).map f).length = i:=by simp; omega
 rw [List.getElem?_append_right (by omega),hlen,Nat.sub_self,List.getElem?_replicate,if_pos (by omega)]
def D8 (P:Program) (t:TypeId):Option (List TypeId):=match P.underlying t with
 | some (.struct fs)=>some (fs.toList.map (·.type))
 | _=>none
def WTl (wt:TypeId→List AV→Prop):List TypeId→List AV→Prop
 | [],avs=>avs = []
 | t::ts,avs=>∃ a b,avs = a++b∧wt t a∧WTl wt ts b
theorem ZW (wt:TypeId→List AV→Prop):∀ (fs:List Field) (avs:List AV),WTs wt fs avs→WTl wt (fs.map (·.type)) avs
 | [],_,h=>h
 | f::fs,_,⟨a,b,h1,h2,h3⟩=>⟨a,b,h1,h2,ZW wt fs b h3⟩
theorem Ed {P:Program} {n:Nat} {t:TypeId} {ts:List TypeId} {avs:List AV} (hs:D8 P t = some ts) (h:WT P (n + 1) t avs):WTl (WT P n) ts avs:=by
 unfold D8 at hs
 unfold WT at h
 split at hs <;> try (cases hs; done)
 rename_i fs hu
 rw [hu] at h
 injection hs with hs
 subst hs
 exact ZW _ _ _ h
theorem EY {P:Program} {n:Nat} {t e:TypeId} {avs:List AV} (hu:P.underlying t = some (.slice e)) (h:WT P (n + 1) t avs):∃ es,avs = [.rsl false false es]∧es.length≤maxLen∧∀ x∈es,WT P n e x:=by
 unfold WT at h
 rw [hu] at h; exact h
theorem BW {P:Program} {n:Nat} {t:TypeId} {k:IntKind} {avs:List AV} (hu:P.underlying t = some (.int k)) (h:WT P (n + 1) t avs):∃ z,avs = [.int k z]∧(Lit.int k z).wf = true:=by
 unfold WT at h
 rw [hu] at h; exact h
theorem RL {P:Program} {n:Nat} {t:TypeId} {avs:List AV} (hu:P.underlying t = some .string) (h:WT P (n + 1) t avs):∃ s,avs = [.str s]∧s.size≤maxLen:=by
 unfold WT at h
 rw [hu] at h; exact h
theorem PH {P:Program} {n:Nat} {t:TypeId} {avs:List AV} (hu:P.underlying t = some .bool) (h:WT P (n + 1) t avs):∃ s,avs = [.bool s]:=by
 unfold WT at h
 rw [hu] at h; exact h
theorem HL {α:Type} {enc:α→List AV}:∀ (es:List (List AV)),(∀ x∈es,∃ a,x = enc a)→∃ xs:List α,es = xs.map enc
 | [],_=>⟨[],rfl⟩
 | e::es,h=>by
  obtain ⟨a,ha⟩:=h e (by simp)
  obtain ⟨xs,hxs⟩:=HL es fun x hx=>h x (by simp [hx])
  exact ⟨a::xs,by simp [ha,hxs]⟩
end Go.Rf
