/- GA of the evaluator on boxes, as lemmas. -/
import Derived.Test.YthbiabieiopobaaGreatDoorRf21
set_option linter.unusedVariables false
set_option linter.unusedSimpArgs false
namespace Go.Rf
open Go
theorem X0 {P:Program} {t e:TypeId} {sz by_ n:Nat} {z:List AV} {S:St} (hu:P.underlying t = some (.slice e)) (hi:(P.info? e).map (fun i=>(i.size,i.bytes)) = some (sz,by_)) {z0:List AV} {pl:Bool} (hz:EP P e = some z0) (hz0:z0.map (nrm false 2) = z) (hl:z.length = sz) (hp:0 < sz) (hlt:z0.all (fun c=>!ltD 2 c) = true) (hpl:z.all AC = pl)
  (hb:(n + 1) * (by_ + 1)≤70368744177664):Hh P t (.int .i64 n) (.int .i64 n) S = some (.bsl S.length 0 n n true,S++[⟨sz,List.replicate n z,pl⟩]):=by
 cases hi':P.info? e with
 | none=>rw [hi'] at hi; cases hi
 | some i=>
  rw [hi'] at hi
  simp only [Option.map_some,Option.some.injEq,Prod.mk.injEq] at hi
  obtain ⟨h1,h2⟩:=hi
  unfold Hh
  rw [hu]
  dsimp only
  rw [hi',hz]
  dsimp only
  have hl0:z0.length = sz:=by rw [← hl,← hz0,List.length_map]
  have hc:(0:Int)≤(n:Int)∧(n:Int) = (n:Int)∧((n:Int).toNat + 1) * (i.bytes + 1)≤70368744177664∧z0.length = i.size∧0 < i.size∧z0.all (fun c=>!ltD 2 c) = true:=⟨by omega,rfl,by rw [h2]; simpa using hb,by rw [h1]; exact hl0,by rw [h1]; exact hp,hlt⟩
  rw [if_pos hc,h1,hz0,hpl]
  simp
def structT (P:Program) (t:TypeId):Option (List TypeId):=match P.underlying t with
 | some (.struct fs)=>some (fs.toList.map (·.type))
 | _=>none
def WTl (wt:TypeId→List AV→Prop):List TypeId→List AV→Prop
 | [],avs=>avs = []
 | t::ts,avs=>∃ a b,avs = a++b∧wt t a∧WTl wt ts b
theorem X8 {P:Program} {n:Nat} {t e:TypeId} {avs:List AV} (hu:P.underlying t = some (.slice e)) (h:WT P (n + 1) t avs):∃ es,avs = [.rsl false false es]∧es.length≤maxLen∧∀ x∈es,WT P n e x:=by
 unfold WT at h
 rw [hu] at h; exact h
theorem fW {P:Program} {n:Nat} {t:TypeId} {k:IntKind} {avs:List AV} (hu:P.underlying t = some (.int k)) (h:WT P (n + 1) t avs):∃ z,avs = [.int k z]∧(Lit.int k z).wf = true:=by
 unfold WT at h
 rw [hu] at h; exact h
end Go.Rf
