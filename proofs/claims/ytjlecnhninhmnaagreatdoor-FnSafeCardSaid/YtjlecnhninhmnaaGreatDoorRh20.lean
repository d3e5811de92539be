/- What a new view takes over: the extern against its A9 function. -/
import Derived.Test.YtjlecnhninhmnaaGreatDoorRh19
import Derived.Test.YtjlecnhninhmnaaGreatDoorRg2
set_option linter.unusedVariables false
set_option linter.unusedSimpArgs false
namespace Go.Rf
open Go
theorem Zy (t:List Int):fzr [] (.rsl false false (t.map fun x=>[AV.int .i64 x])) = .rsl false false (t.map (Enc.cs false)):=by
 simp [fzr,frz,Bh,nz,nrm,ltD]
 intro x hx
 rfl
theorem LW {α β:Type} {f g:α→Option β} (h:∀ x,f x = g x):∀ xs:List α,G6 f xs = G6 g xs
 | []=>rfl
 | x::xs=>by simp only [G6,h x,LW h xs]
theorem fE {R:Du} {f:FuncId} (h:∀ a b S,R f [a,b] S = HC [a,b] S) {α:Type} (enc:α→List AV) (cf:α→List (Int×Int×Int)) (hrow:∀ x,(enc x).length = 7∧∃ l fl cs,(enc x)[5]? = some (AV.rsl l fl cs)∧G6 XF cs = some (cf x))
  (xs:List α) (rs:List Int) (l1 f1 l2 f2:Bool):Fit (R f [.rsl l1 f1 (xs.map enc),.rsl l2 f2 (rs.map (Enc.cs l2))] []) (MY rs (G6 (fun r=>(Aq xs r).map cf) rs)) (P0 fun t:List Int=>AV.rsl false false (t.map (Enc.cs false))):=by
 rw [h]
 intro t ht
 have e1:G6 XE (rs.map (Enc.cs l2)) = some rs:=(LV (f:=XE) (g:=(Enc.cs l2:Int→List AV)) (k:=id) (fun x=>rfl) rs).trans (by rw [List.map_id])
 have e2:∀ r,IU (xs.map enc) r = (Aq xs r).map cf:=fun r=>by
  unfold IU Aq
  by_cases h0:0≤r
  ·rw [if_pos h0,if_pos h0,List.getElem?_map]
   cases hx:xs[r.toNat]? with
   | none=>rfl
   | some x=>
    obtain ⟨k1,l,fl,cs,k2,k3⟩:=hrow x
    simp only [Option.map_some,k1,if_true,k2,k3]
  ·rw [if_neg h0,if_neg h0]; rfl
 have e:MZ (xs.map enc) (rs.map (Enc.cs l2)) = some t:=by
  unfold MZ
  rw [e1]
  dsimp only
  rw [LW e2]
  exact ht
 refine ⟨(.rsl false false (t.map fun x=>[AV.int .i64 x]),[]),?_,Zy t⟩
 show (MZ (xs.map enc) (rs.map (Enc.cs l2))).map _ = _
 rw [e]; rfl
end Go.Rf
