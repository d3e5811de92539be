/- What a new view takes over: the extern against its AC function. -/
import Derived.Test.YthbiabieiopobaaGreatDoorRh19
import Derived.Test.YthbiabieiopobaaGreatDoorRg2
set_option linter.unusedVariables false
set_option linter.unusedSimpArgs false
namespace Go.Rf
open Go
theorem YF (t:List Int):fzr [] (.rsl false false (t.map fun x=>[AV.int .i64 x])) = .rsl false false (t.map (Enc.cs false)):=by
 simp [fzr,frz,Bi,nz,nrm,ltD]
 intro x hx
 rfl
theorem KX {α β:Type} {f g:α→Option β} (h:∀ x,f x = g x):∀ xs:List α,Gj f xs = Gj g xs
 | []=>rfl
 | x::xs=>by simp only [Gj,h x,KX h xs]
theorem eQ {R:CW} {f:FuncId} (h:∀ a b S,R f [a,b] S = GQ [a,b] S) {α:Type} (enc:α→List AV) (cf:α→List (Int×Int×Int)) (hrow:∀ x,(enc x).length = 7∧∃ l fl cs,(enc x)[5]? = some (AV.rsl l fl cs)∧Gj WR cs = some (cf x))
  (xs:List α) (rs:List Int) (l1 f1 l2 f2:Bool):Fit (R f [.rsl l1 f1 (xs.map enc),.rsl l2 f2 (rs.map (Enc.cs l2))] []) (LX rs (Gj (fun r=>(Av xs r).map cf) rs)) (P0 fun t:List Int=>AV.rsl false false (t.map (Enc.cs false))):=by
 rw [h]
 intro t ht
 have e1:Gj WQ (rs.map (Enc.cs l2)) = some rs:=(KW (f:=WQ) (g:=(Enc.cs l2:Int→List AV)) (k:=id) (fun x=>rfl) rs).trans (by rw [List.map_id])
 have e2:∀ r,Ip (xs.map enc) r = (Av xs r).map cf:=fun r=>by
  unfold Ip Av
  by_cases h0:0≤r
  ·rw [if_pos h0,if_pos h0,List.getElem?_map]
   cases hx:xs[r.toNat]? with
   | none=>rfl
   | some x=>
    obtain ⟨k1,l,fl,cs,k2,k3⟩:=hrow x
    simp only [Option.map_some,k1,if_true,k2,k3]
  ·rw [if_neg h0,if_neg h0]; rfl
 have e:LY (xs.map enc) (rs.map (Enc.cs l2)) = some t:=by
  unfold LY
  rw [e1]
  dsimp only
  rw [KX e2]
  exact ht
 refine ⟨(.rsl false false (t.map fun x=>[AV.int .i64 x]),[]),?_,YF t⟩
 show (LY (xs.map enc) (rs.map (Enc.cs l2))).map _ = _
 rw [e]; rfl
end Go.Rf
