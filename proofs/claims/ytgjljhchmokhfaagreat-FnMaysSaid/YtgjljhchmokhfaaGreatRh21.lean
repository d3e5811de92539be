/- A slice of the caller's, read only, whatever is known of it. -/
import Derived.Test.YtgjljhchmokhfaaGreatRh14
set_option linter.unusedVariables false
set_option linter.unusedSimpArgs false
namespace Go.Rf
open Go
section
variable {α:Type} [e:Enc α]
def View (en:En) (v:AV) (xs:List α):Prop:=∀ S,en.ok S→∃ ids,(wls ids v xs).ok S
theorem vw_s {ids:List Nat} {v:AV} {xs:List α}:View (wls ids v xs) v xs:=fun _ h=>⟨ids,h⟩
theorem vw_a [t:Tr α] {ids:List Nat} {v:AV} {xs:List α}:View (tra ids v xs) v xs:=fun _ h=>⟨ids,Vv h.1⟩
variable {ρ τ:Type} {L:List En} {m:Option τ} {P:τ→ρ→Prop} {en:En} {v:AV} {xs:List α} {n:Nat}
theorem TI (hV:View en v xs) {k:AV→St→Option ρ} (j:Nat) (hL:L[j]? = some en) (hk:Okh L (k (.int .i64 xs.length)) m P):Okh L (fun S=>pk (Fa v) S fun r=>k r S) m P:=
 Lq (x:=fun _=>Fa v) (fun S hS=>by
  obtain ⟨ids,h⟩:=hV S (hS.get hL)
  rcases h with ⟨l,fl,rfl,_⟩ | ⟨b,fl,pl,es,is,rs,rfl,_⟩
  ·simp [Fa]
  ·rfl) hk
theorem VK (hV:View en v xs) {kk:IntKind} {i:Int} {k:AV→St→Option ρ} {mk:α→Option τ} (j:Nat) (hL:L[j]? = some en) (hn:e.sz = n) (hk:∀ x,Am xs i = some x→Okh L (k (wEl n v i.toNat)) (mk x) P) :
  Okh L (fun S=>pk (Bc n v (.int kk i) S) S fun r=>k r S) ((Am xs i).bind mk) P:=fun S hS=>by
 intro y hy
 rw [Option.bind_eq_some_iff] at hy
 obtain ⟨x,hx,hm⟩:=hy
 obtain ⟨ids,h⟩:=hV S (hS.get hL)
 obtain ⟨cs,ic,_,h2,_⟩:=Kw h hx hn
 show ∃ r,pk (Bc n v (.int kk i) S) S (fun r=>k r S) = some r∧_
 rw [h2 kk]
 exact hk x hx S hS y hm
theorem VM (hV:View en v xs) {i:Int} {x:α} {o c:Nat} {k:AV→St→Option ρ} (j:Nat) (hL:L[j]? = some en) (hn:e.sz = n) (hx:Am xs i = some x) (ho:o + c≤n) (hk:Okh L (k (wFl o c (wEl n v i.toNat))) m P):Okh L (fun S=>pk (Cj (wEl n v i.toNat) o c) S fun r=>k r S) m P:=fun S hS=>by
 obtain ⟨ids,h⟩:=hV S (hS.get hL)
 obtain ⟨cs,ic,_,_,h3⟩:=Kw h hx hn
 show Fit (pk (Cj (wEl n v i.toNat) o c) S fun r=>k r S) m P
 rw [(h3 o c ho).1]
 exact hk S hS
theorem VJ (hV:View en v xs) {i:Int} {x:α} {o:Nat} {z:Int} {k:AV→St→Option ρ} (j:Nat) (hL:L[j]? = some en) (hn:e.sz = n) (hx:Am xs i = some x) (ho:o + 1≤n) (hr:(e.cs false x)[o]? = some (.int .i64 z)) (hk:Okh L (k (.int .i64 z)) m P):Okh L (fun S=>pk (ld1 S (wFl o 1 (wEl n v i.toNat))) S fun r=>k r S) m P:=
 Lq (x:=fun S=>ld1 S (wFl o 1 (wEl n v i.toNat))) (fun S hS=>by
  obtain ⟨ids,h⟩:=hV S (hS.get hL)
  obtain ⟨cs,ic,h1,_,h3⟩:=Kw h hx hn
  have hc:=Tj h1 hr
  obtain ⟨hl,he⟩:=List.getElem?_eq_some_iff.1 hc
  simp only [ld1,(h3 o 1 ho).2]
  rw [List.drop_eq_getElem_cons hl,he]
  rfl) hk
end
def WN (w x y z:Option AV):Option AV:=match w,x,y,z with
 | some w,some x,some y,some z=>some (.tup [w,x,y,z])
 | _,_,_,_=>none
def TA (v w x y z:Option AV):Option AV:=match v,w,x,y,z with
 | some v,some w,some x,some y,some z=>some (.tup [v,w,x,y,z])
 | _,_,_,_,_=>none
theorem TC {w x y z:Option AV} {d a b c:AV} (hw:w = some d) (hx:x = some a) (hy:y = some b) (hz:z = some c):WN w x y z = some (.tup [d,a,b,c]):=by rw [hw,hx,hy,hz]; rfl
theorem K6 {v w x y z:Option AV} {f d a b c:AV} (hv:v = some f) (hw:w = some d) (hx:x = some a) (hy:y = some b) (hz:z = some c):TA v w x y z = some (.tup [f,d,a,b,c]):=by rw [hv,hw,hx,hy,hz]; rfl
end Go.Rf
