/- What the library's texts answer, told by contracts. -/
import Derived.Test.YtgjljhchmokhfaaGreatRh3
set_option linter.unusedVariables false
set_option linter.unusedSimpArgs false
namespace Go.Rf
open Go
def extSB (F:ByteArray→UInt8→Int) (args:List AV) (S:St):Option (AV×St):=match args with
 | [.str s,.str t]=>match t.data.toList with
  | [c]=>some (.int .i64 (F s c),S)
  | _=>none
 | _=>none
theorem CR.two {X:Nat→Prop} {m:AG} {A:Nat→Prop} {S:St} {w:World} {a b:AV} {cargs:Array Value} (h:CR X m A S w [a,b] cargs):∃ x y,cargs = #[x,y]∧VR X m A S w a x∧VR X m A S w b y:=by
 obtain ⟨h1,h2⟩:=h
 obtain ⟨l⟩:=cargs
 match l,h1 with
 | [x,y],_=>exact ⟨x,y,rfl,h2 0 a x rfl rfl,h2 1 b y rfl rfl⟩
 | [],h=>simp at h
 | [_],h=>simp at h
 | _::_::_::_,h=>simp at h
theorem VP {α ρ τ:Type} [e:Enc α] {L0:List En} {P:τ→ρ→Prop} {v:AV} {xs:List α} {n:Nat} {lo hi:Option AV} {j:Int} {k:AV→St→Option ρ} {mk:List α→Option τ} (hn:e.sz = n) (hlo:Dq lo = (if 0≤(0:Int) then some (some (0:Int).toNat) else none)∨(lo = none∧(0:Int) = 0)) (hhi:Dq hi = (if 0≤j then some (some j.toNat) else none)∨(hi = none∧j = xs.length))
  (hk:∀ ys,Ib xs 0 j = some ys→Okh (cl v ys::L0) (k (cpv v ys.length)) (mk ys) P):Okh (sl false v xs::L0) (fun S=>pq (CG n v lo hi none S) fun r=>k r S) ((Ib xs 0 j).bind mk) P:=fun S hS=>by
 intro t ht
 rw [Option.bind_eq_some_iff] at ht
 obtain ⟨ys,hy,hm⟩:=ht
 have hy0:=hy
 unfold Ib at hy
 split at hy <;> try (cases hy; done)
 rename_i h0
 injection hy with hy
 simp only [Int.toNat_zero,List.drop_zero,Int.sub_zero] at hy
 have hl:ys.length = j.toNat:=by rw [← hy,List.length_take]; omega
 refine TF (mk:=fun _=>mk ys) (i:=0) (j:=j) 0 rfl hn hlo hhi (fun _ _ _=>?_) S hS t ?_
 ·refine Q5 (ys:=ys) (by rw [hl]; exact hy.symm) ?_
  have:=hk ys hy0
  rw [hl] at this
  show Okh _ (k (viA v 0 j.toNat)) _ _
  rw [WH]; exact this
 ·unfold viO; rw [if_pos h0]; exact hm
theorem VN {ρ τ:Type} {L:List En} {m:Option τ} {P:τ→ρ→Prop} {b:Bool} {x:St→Option ρ} (h:b = false→Okh L x m P):Okh L x (bif b then none else m) P:=by
 cases b
 ·exact h rfl
 ·exact Ao
section
variable {ρ τ:Type} {L:List En} {m:Option τ} {P:τ→ρ→Prop}
theorem Ya {M:List AV→Prop} {S:St} {c1 c2 c3 c4 c5:AV} {f1 f2 f3 f4 f5:Bool→AV} (h1:CV 8 L false c1 f1) (h2:CV 8 L false c2 f2) (h3:CV 8 L false c3 f3) (h4:CV 8 L false c4 f4) (h5:CV 8 L false c5 f5) (hS:HP S L) (h:∀ l1 l2 l3 l4 l5,M [f1 l1,f2 l2,f3 l3,f4 l4,f5 l5]):M ([c1,c2,c3,c4,c5].map (fz S)):=by
 obtain ⟨l1,e1⟩:=h1.fz hS
 obtain ⟨l2,e2⟩:=h2.fz hS
 obtain ⟨l3,e3⟩:=h3.fz hS
 obtain ⟨l4,e4⟩:=h4.fz hS
 obtain ⟨l5,e5⟩:=h5.fz hS
 simp only [List.map_cons,List.map_nil,e1,e2,e3,e4,e5]; exact h l1 l2 l3 l4 l5
theorem XZ {M:List AV→Prop} {S:St} {c1 c2 c3 c4 c5 c6:AV} {f1 f2 f3 f4 f5 f6:Bool→AV} (h1:CV 8 L false c1 f1) (h2:CV 8 L false c2 f2) (h3:CV 8 L false c3 f3) (h4:CV 8 L false c4 f4) (h5:CV 8 L false c5 f5) (h6:CV 8 L false c6 f6) (hS:HP S L) (h:∀ l1 l2 l3 l4 l5 l6,M [f1 l1,f2 l2,f3 l3,f4 l4,f5 l5,f6 l6]):M ([c1,c2,c3,c4,c5,c6].map (fz S)):=by
 obtain ⟨l1,e1⟩:=h1.fz hS
 obtain ⟨l2,e2⟩:=h2.fz hS
 obtain ⟨l3,e3⟩:=h3.fz hS
 obtain ⟨l4,e4⟩:=h4.fz hS
 obtain ⟨l5,e5⟩:=h5.fz hS
 obtain ⟨l6,e6⟩:=h6.fz hS
 simp only [List.map_cons,List.map_nil,e1,e2,e3,e4,e5,e6]; exact h l1 l2 l3 l4 l5 l6
theorem Yd {τ:Type} {run:BP} {g:FuncId} {mt:Option τ} {Pt:τ→AV×St→Prop} {S:St} {c1:AV} {f1:Bool→AV} (h1:CV 8 L false c1 f1) (hS:HP S L) (h:∀ l1,Fit (run g [f1 l1] []) mt Pt):Fit (run g ([c1].map (fz S)) []) mt Pt:=Vg (M:=fun a=>Fit (run g a []) mt Pt) h1 hS h
theorem aF1 {τ:Type} {run:BP} {g:FuncId} {mt:Option τ} {Pt:τ→AV×St→Prop} {c1:AV} {f1:Bool→AV} (h1:CV 8 L false c1 f1) (h:∀ l1,Fit (run g [f1 l1] []) mt Pt):∀ S,HP S L→Fit (run g ([c1].map (fz S)) []) mt Pt:=fun S hS=>Yd h1 hS h
theorem Yc {τ:Type} {run:BP} {g:FuncId} {mt:Option τ} {Pt:τ→AV×St→Prop} {S:St} {c1 c2:AV} {f1 f2:Bool→AV} (h1:CV 8 L false c1 f1) (h2:CV 8 L false c2 f2) (hS:HP S L) (h:∀ l1 l2,Fit (run g [f1 l1,f2 l2] []) mt Pt):Fit (run g ([c1,c2].map (fz S)) []) mt Pt:=NT (M:=fun a=>Fit (run g a []) mt Pt) h1 h2 hS h
theorem aF2 {τ:Type} {run:BP} {g:FuncId} {mt:Option τ} {Pt:τ→AV×St→Prop} {c1 c2:AV} {f1 f2:Bool→AV} (h1:CV 8 L false c1 f1) (h2:CV 8 L false c2 f2) (h:∀ l1 l2,Fit (run g [f1 l1,f2 l2] []) mt Pt):∀ S,HP S L→Fit (run g ([c1,c2].map (fz S)) []) mt Pt:=fun S hS=>Yc h1 h2 hS h
theorem Yb {τ:Type} {run:BP} {g:FuncId} {mt:Option τ} {Pt:τ→AV×St→Prop} {S:St} {c1 c2 c3:AV} {f1 f2 f3:Bool→AV} (h1:CV 8 L false c1 f1) (h2:CV 8 L false c2 f2) (h3:CV 8 L false c3 f3) (hS:HP S L) (h:∀ l1 l2 l3,Fit (run g [f1 l1,f2 l2,f3 l3] []) mt Pt):Fit (run g ([c1,c2,c3].map (fz S)) []) mt Pt:=Vf (M:=fun a=>Fit (run g a []) mt Pt) h1 h2 h3 hS h
theorem aF3 {τ:Type} {run:BP} {g:FuncId} {mt:Option τ} {Pt:τ→AV×St→Prop} {c1 c2 c3:AV} {f1 f2 f3:Bool→AV} (h1:CV 8 L false c1 f1) (h2:CV 8 L false c2 f2) (h3:CV 8 L false c3 f3) (h:∀ l1 l2 l3,Fit (run g [f1 l1,f2 l2,f3 l3] []) mt Pt):∀ S,HP S L→Fit (run g ([c1,c2,c3].map (fz S)) []) mt Pt:=fun S hS=>Yb h1 h2 h3 hS h
theorem C0 {τ:Type} {run:BP} {g:FuncId} {mt:Option τ} {Pt:τ→AV×St→Prop} {S:St} {c1 c2 c3 c4:AV} {f1 f2 f3 f4:Bool→AV} (h1:CV 8 L false c1 f1) (h2:CV 8 L false c2 f2) (h3:CV 8 L false c3 f3) (h4:CV 8 L false c4 f4) (hS:HP S L) (h:∀ l1 l2 l3 l4,Fit (run g [f1 l1,f2 l2,f3 l3,f4 l4] []) mt Pt):Fit (run g ([c1,c2,c3,c4].map (fz S)) []) mt Pt:=SD (M:=fun a=>Fit (run g a []) mt Pt) h1 h2 h3 h4 hS h
theorem Et {τ:Type} {run:BP} {g:FuncId} {mt:Option τ} {Pt:τ→AV×St→Prop} {S:St} {c1 c2 c3 c4 c5:AV} {f1 f2 f3 f4 f5:Bool→AV} (h1:CV 8 L false c1 f1) (h2:CV 8 L false c2 f2) (h3:CV 8 L false c3 f3) (h4:CV 8 L false c4 f4) (h5:CV 8 L false c5 f5) (hS:HP S L) (h:∀ l1 l2 l3 l4 l5,Fit (run g [f1 l1,f2 l2,f3 l3,f4 l4,f5 l5] []) mt Pt):Fit (run g ([c1,c2,c3,c4,c5].map (fz S)) []) mt Pt:=Ya (M:=fun a=>Fit (run g a []) mt Pt) h1 h2 h3 h4 h5 hS h
theorem Vh {τ:Type} {run:BP} {g:FuncId} {mt:Option τ} {Pt:τ→AV×St→Prop} {S:St} {c1 c2 c3 c4 c5 c6:AV} {f1 f2 f3 f4 f5 f6:Bool→AV} (h1:CV 8 L false c1 f1) (h2:CV 8 L false c2 f2) (h3:CV 8 L false c3 f3) (h4:CV 8 L false c4 f4) (h5:CV 8 L false c5 f5) (h6:CV 8 L false c6 f6) (hS:HP S L) (h:∀ l1 l2 l3 l4 l5 l6,Fit (run g [f1 l1,f2 l2,f3 l3,f4 l4,f5 l5,f6 l6] []) mt Pt):Fit (run g ([c1,c2,c3,c4,c5,c6].map (fz S)) []) mt Pt:=XZ (M:=fun a=>Fit (run g a []) mt Pt) h1 h2 h3 h4 h5 h6 hS h
def G6 (x y:Int):Option Int:=if y = 0 then none else some (x.tmod y)
def MG (k:IntKind) (x y:Int):Option Int:=if y = 0 then none else some (k.wrap (x.tdiv y))
theorem WS {G:Program} {t:TypeId} {a b:Int} {kk:IntKind} {k:AV→St→Option ρ} {mk:Int→Option τ} (hk:∀ s,G6 a b = some s→Okh L (k (.int kk s)) (mk s) P):Okh L (fun S=>pk (Eh G .rem t (.int kk a) (.int kk b)) S fun r=>k r S) ((G6 a b).bind mk) P:=fun S hS=>by
 intro y hy
 rw [Option.bind_eq_some_iff] at hy
 obtain ⟨s,hs,hm⟩:=hy
 have h1:Eh G .rem t (.int kk a) (.int kk b) = some (.int kk s):=by
  unfold G6 at hs
  by_cases h:b = 0
  ·rw [if_pos h] at hs; cases hs
  ·rw [if_neg h] at hs; injection hs with hs; subst hs
   simp [Eh,h]
   rfl
 show ∃ r,pk (Eh G .rem t (.int kk a) (.int kk b)) S (fun r=>k r S) = some r∧_
 rw [h1]
 exact hk s hs S hS y hm
theorem Hu {G:Program} {t:TypeId} {a b:Int} {kk:IntKind} {k:AV→St→Option ρ} {mk:Int→Option τ} (hk:∀ s,G6 a b = some s→Okh L (k (.int kk s)) (mk s) P):Okh L (fun S=>pk (LX G .rem t (.int kk a) (.int kk b)) S fun r=>k r S) ((G6 a b).bind mk) P:=WS (G:=G) (t:=t) hk
theorem WU {G:Program} {t:TypeId} {a b:Int} {kk:IntKind} {k:AV→St→Option ρ} {mk:Int→Option τ} (hk:∀ s,MG kk a b = some s→Okh L (k (.int kk s)) (mk s) P):Okh L (fun S=>pk (Eh G .quo t (.int kk a) (.int kk b)) S fun r=>k r S) ((MG kk a b).bind mk) P:=fun S hS=>by
 intro y hy
 rw [Option.bind_eq_some_iff] at hy
 obtain ⟨s,hs,hm⟩:=hy
 have h1:Eh G .quo t (.int kk a) (.int kk b) = some (.int kk s):=by
  unfold MG at hs
  by_cases h:b = 0
  ·rw [if_pos h] at hs; cases hs
  ·rw [if_neg h] at hs; injection hs with hs; subst hs
   simp [Eh,h]
   rfl
 show ∃ r,pk (Eh G .quo t (.int kk a) (.int kk b)) S (fun r=>k r S) = some r∧_
 rw [h1]
 exact hk s hs S hS y hm
theorem VH {G:Program} {t:TypeId} {a b:Int} {kk:IntKind} {k:AV→St→Option ρ} {mk:Int→Option τ} (hk:∀ s,MG kk a b = some s→Okh L (k (.int kk s)) (mk s) P):Okh L (fun S=>pk (LX G .quo t (.int kk a) (.int kk b)) S fun r=>k r S) ((MG kk a b).bind mk) P:=WU (G:=G) (t:=t) hk
end
end Go.Rf
