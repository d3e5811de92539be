/- What the library's texts answer, told by contracts. -/
import Derived.Test.YthbiabieiopobaaGreatDoorRh3
set_option linter.unusedVariables false
set_option linter.unusedSimpArgs false
namespace Go.Rf
open Go
def Ji (F:ByteArray→UInt8→Int) (args:List AV) (S:St):Option (AV×St):=match args with
 | [.str s,.str t]=>match t.data.toList with
  | [c]=>some (.int .i64 (F s c),S)
  | _=>none
 | _=>none
theorem CR.two {X:Nat→Prop} {m:Bd} {A:Nat→Prop} {S:St} {w:World} {a b:AV} {cargs:Array Value} (h:CR X m A S w [a,b] cargs):∃ x y,cargs = #[x,y]∧VR X m A S w a x∧VR X m A S w b y:=by
 obtain ⟨h1,h2⟩:=h
 obtain ⟨l⟩:=cargs
 match l,h1 with
 | [x,y],_=>exact ⟨x,y,rfl,h2 0 a x rfl rfl,h2 1 b y rfl rfl⟩
 | [],h=>simp at h
 | [_],h=>simp at h
 | _::_::_::_,h=>simp at h
theorem WL {P:Program} {g0:Nat} {G:World→Prop} {f:FuncId} {F:ByteArray→UInt8→Int}
  (hc:∀ (s:ByteArray) (c:UInt8) (w:World),Calls P f #[.string s,.string ⟨#[c]⟩] w fun e w'=>e = .returned (.int .i64 (F s c))∧w' = w)
  (args:List AV) (S:St) (v:AV) (S1:St) (he:Ji F args S = some (v,S1)) (X:Nat→Prop) (m:Bd) (A:Nat→Prop) (w:World) (cargs:Array Value) (hr:Rel g0 X m A S w) (ha:CR X m A S w args cargs) (_:G w) :
  Calls P f cargs w (ED g0 X m A S w v S1):=by
 unfold Ji at he
 split at he <;> try (cases he; done)
 split at he <;> try (cases he; done)
 rename_i s t _ c ht
 injection he with he
 injection he with h1 h2
 subst h1; subst h2
 obtain ⟨x,y,rfl,hx,hy⟩:=ha.two
 cases hx; cases hy
 have e:t = ⟨#[c]⟩:=by
  obtain ⟨d⟩:=t
  congr 1
  exact Array.toList_inj.1 ht
 subst e
 refine (hc s c w).mono ?_
 rintro e w' ⟨rfl,rfl⟩
 exact ⟨_,m,A,rfl,hr,Ext.refl _ _ _ _,.int _ _⟩
theorem cU {α ρ τ:Type} [e:Enc α] {L0:List En} {P:τ→ρ→Prop} {v:AV} {xs:List α} {n:Nat} {lo hi:Option AV} {j:Int} {k:AV→St→Option ρ} {mk:List α→Option τ} (hn:e.sz = n) (hlo:Dz lo = (if 0≤(0:Int) then some (some (0:Int).toNat) else none)∨(lo = none∧(0:Int) = 0)) (hhi:Dz hi = (if 0≤j then some (some j.toNat) else none)∨(hi = none∧j = xs.length))
  (hk:∀ ys,EL xs 0 j = some ys→Okh (cl v ys::L0) (k (cpv v ys.length)) (mk ys) P):Okh (sl false v xs::L0) (fun S=>pq (Be n v lo hi none S) fun r=>k r S) ((EL xs 0 j).bind mk) P:=fun S hS=>by
 intro t ht
 rw [Option.bind_eq_some_iff] at ht
 obtain ⟨ys,hy,hm⟩:=ht
 have hy0:=hy
 unfold EL at hy
 split at hy <;> try (cases hy; done)
 rename_i h0
 injection hy with hy
 simp only [Int.toNat_zero,List.drop_zero,Int.sub_zero] at hy
 have hl:ys.length = j.toNat:=by rw [← hy,List.length_take]; omega
 refine Ye (mk:=fun _=>mk ys) (i:=0) (j:=j) 0 rfl hn hlo hhi (fun _ _ _=>?_) S hS t ?_
 ·refine Vw (ys:=ys) (by rw [hl]; exact hy.symm) ?_
  have:=hk ys hy0
  rw [hl] at this
  show Okh _ (k (viA v 0 j.toNat)) _ _
  rw [iF]; exact this
 ·unfold viO; rw [if_pos h0]; exact hm
theorem O8 (a:Str) (i j:Nat):(ByteArray.mk a.toArray).extract i j = ⟨((a.drop i).take (j - i)).toArray⟩:=by
 apply ByteArray.ext
 simp [ByteArray.data_extract,List.extract_eq_take_drop]
theorem I7 {ρ τ:Type} {L:List En} {P:τ→ρ→Prop} {a:Str} {lo hi:Option AV} {i j:Int} {k:AV→St→Option ρ} {mk:Str→Option τ} (hlo:Dz lo = (if 0≤i then some (some i.toNat) else none)∨(lo = none∧i = 0)) (hhi:Dz hi = (if 0≤j then some (some j.toNat) else none)∨(hi = none∧j = a.length))
  (hk:∀ ys,EL a i j = some ys→Okh L (k (AY ys)) (mk ys) P):Okh L (fun S=>pq (F7 (AY a) lo hi none S) fun r=>k r S) ((EL a i j).bind mk) P:=fun S hS=>by
 intro t ht
 rw [Option.bind_eq_some_iff] at ht
 obtain ⟨ys,hy,hm⟩:=ht
 have hy0:=hy
 unfold EL at hy
 split at hy <;> try (cases hy; done)
 rename_i h0
 injection hy with hy
 obtain ⟨h1,h2,h3⟩:=h0
 have hp:F7 (AY a) lo hi none S = some (AY ys,S):=by
  have o1:(Dz lo = some (some i.toNat))∨(Dz lo = some none∧i.toNat = 0):=by
   rcases hlo with h | ⟨rfl,rfl⟩
   ·left; rw [h,if_pos h1]
   ·right; exact ⟨rfl,rfl⟩
  have o2:(Dz hi = some (some j.toNat))∨(Dz hi = some none∧j.toNat = a.length):=by
   rcases hhi with h | ⟨rfl,rfl⟩
   ·left; rw [h,if_pos (by omega)]
   ·right; exact ⟨rfl,by omega⟩
  have hle:i.toNat≤j.toNat∧j.toNat≤a.length:=by omega
  have hsz:(ByteArray.mk a.toArray).size = a.length:=by simp [ByteArray.size]
  have he:(ByteArray.mk a.toArray).extract i.toNat j.toNat = ⟨ys.toArray⟩:=by rw [O8,← hy,show (j - i).toNat = j.toNat - i.toNat by omega]
  rcases o1 with o1 | ⟨o1,g1⟩ <;> rcases o2 with o2 | ⟨o2,g2⟩ <;>
   simp only [F7,AY,E8,o1,o2,show Dz none = some none from rfl,Option.getD_some,Option.getD_none,hsz] <;>
   first
    | (rw [if_pos ⟨hle.1,hle.2⟩,he]; rfl)
    | (rw [g1] at he hle; rw [if_pos ⟨hle.1,hle.2⟩,he]; rfl)
    | (rw [← g2]; rw [if_pos ⟨hle.1,Nat.le_refl _⟩,he]; rfl)
    | (rw [g1] at he hle; rw [← g2]; rw [if_pos ⟨hle.1,Nat.le_refl _⟩,he]; rfl)
 show ∃ r,pq (F7 (AY a) lo hi none S) (fun r=>k r S) = some r∧_
 rw [hp]
 exact hk ys hy0 S hS t hm
section
variable {ρ τ:Type} {L:List En} {m:Option τ} {P:τ→ρ→Prop}
theorem nS {M:List AV→Prop} {S:St} {c1 c2 c3 c4 c5:AV} {f1 f2 f3 f4 f5:Bool→AV} (h1:CV 8 L false c1 f1) (h2:CV 8 L false c2 f2) (h3:CV 8 L false c3 f3) (h4:CV 8 L false c4 f4) (h5:CV 8 L false c5 f5) (hS:HP S L) (h:∀ l1 l2 l3 l4 l5,M [f1 l1,f2 l2,f3 l3,f4 l4,f5 l5]):M ([c1,c2,c3,c4,c5].map (fz S)):=by
 obtain ⟨l1,e1⟩:=h1.fz hS
 obtain ⟨l2,e2⟩:=h2.fz hS
 obtain ⟨l3,e3⟩:=h3.fz hS
 obtain ⟨l4,e4⟩:=h4.fz hS
 obtain ⟨l5,e5⟩:=h5.fz hS
 simp only [List.map_cons,List.map_nil,e1,e2,e3,e4,e5]; exact h l1 l2 l3 l4 l5
theorem nR {M:List AV→Prop} {S:St} {c1 c2 c3 c4 c5 c6:AV} {f1 f2 f3 f4 f5 f6:Bool→AV} (h1:CV 8 L false c1 f1) (h2:CV 8 L false c2 f2) (h3:CV 8 L false c3 f3) (h4:CV 8 L false c4 f4) (h5:CV 8 L false c5 f5) (h6:CV 8 L false c6 f6) (hS:HP S L) (h:∀ l1 l2 l3 l4 l5 l6,M [f1 l1,f2 l2,f3 l3,f4 l4,f5 l5,f6 l6]):M ([c1,c2,c3,c4,c5,c6].map (fz S)):=by
 obtain ⟨l1,e1⟩:=h1.fz hS
 obtain ⟨l2,e2⟩:=h2.fz hS
 obtain ⟨l3,e3⟩:=h3.fz hS
 obtain ⟨l4,e4⟩:=h4.fz hS
 obtain ⟨l5,e5⟩:=h5.fz hS
 obtain ⟨l6,e6⟩:=h6.fz hS
 simp only [List.map_cons,List.map_nil,e1,e2,e3,e4,e5,e6]; exact h l1 l2 l3 l4 l5 l6
theorem nX {τ:Type} {run:CW} {g:FuncId} {mt:Option τ} {Pt:τ→AV×St→Prop} {S:St} {c1:AV} {f1:Bool→AV} (h1:CV 8 L false c1 f1) (hS:HP S L) (h:∀ l1,Fit (run g [f1 l1] []) mt Pt):Fit (run g ([c1].map (fz S)) []) mt Pt:=Xv (M:=fun a=>Fit (run g a []) mt Pt) h1 hS h
theorem aF1 {τ:Type} {run:CW} {g:FuncId} {mt:Option τ} {Pt:τ→AV×St→Prop} {c1:AV} {f1:Bool→AV} (h1:CV 8 L false c1 f1) (h:∀ l1,Fit (run g [f1 l1] []) mt Pt):∀ S,HP S L→Fit (run g ([c1].map (fz S)) []) mt Pt:=fun S hS=>nX h1 hS h
theorem nW {τ:Type} {run:CW} {g:FuncId} {mt:Option τ} {Pt:τ→AV×St→Prop} {S:St} {c1 c2:AV} {f1 f2:Bool→AV} (h1:CV 8 L false c1 f1) (h2:CV 8 L false c2 f2) (hS:HP S L) (h:∀ l1 l2,Fit (run g [f1 l1,f2 l2] []) mt Pt):Fit (run g ([c1,c2].map (fz S)) []) mt Pt:=Hg (M:=fun a=>Fit (run g a []) mt Pt) h1 h2 hS h
theorem aF2 {τ:Type} {run:CW} {g:FuncId} {mt:Option τ} {Pt:τ→AV×St→Prop} {c1 c2:AV} {f1 f2:Bool→AV} (h1:CV 8 L false c1 f1) (h2:CV 8 L false c2 f2) (h:∀ l1 l2,Fit (run g [f1 l1,f2 l2] []) mt Pt):∀ S,HP S L→Fit (run g ([c1,c2].map (fz S)) []) mt Pt:=fun S hS=>nW h1 h2 hS h
theorem nV {τ:Type} {run:CW} {g:FuncId} {mt:Option τ} {Pt:τ→AV×St→Prop} {S:St} {c1 c2 c3:AV} {f1 f2 f3:Bool→AV} (h1:CV 8 L false c1 f1) (h2:CV 8 L false c2 f2) (h3:CV 8 L false c3 f3) (hS:HP S L) (h:∀ l1 l2 l3,Fit (run g [f1 l1,f2 l2,f3 l3] []) mt Pt):Fit (run g ([c1,c2,c3].map (fz S)) []) mt Pt:=Xu (M:=fun a=>Fit (run g a []) mt Pt) h1 h2 h3 hS h
theorem aF3 {τ:Type} {run:CW} {g:FuncId} {mt:Option τ} {Pt:τ→AV×St→Prop} {c1 c2 c3:AV} {f1 f2 f3:Bool→AV} (h1:CV 8 L false c1 f1) (h2:CV 8 L false c2 f2) (h3:CV 8 L false c3 f3) (h:∀ l1 l2 l3,Fit (run g [f1 l1,f2 l2,f3 l3] []) mt Pt):∀ S,HP S L→Fit (run g ([c1,c2,c3].map (fz S)) []) mt Pt:=fun S hS=>nV h1 h2 h3 hS h
theorem FM {τ:Type} {run:CW} {g:FuncId} {mt:Option τ} {Pt:τ→AV×St→Prop} {S:St} {c1 c2 c3 c4:AV} {f1 f2 f3 f4:Bool→AV} (h1:CV 8 L false c1 f1) (h2:CV 8 L false c2 f2) (h3:CV 8 L false c3 f3) (h4:CV 8 L false c4 f4) (hS:HP S L) (h:∀ l1 l2 l3 l4,Fit (run g [f1 l1,f2 l2,f3 l3,f4 l4] []) mt Pt):Fit (run g ([c1,c2,c3,c4].map (fz S)) []) mt Pt:=Xt (M:=fun a=>Fit (run g a []) mt Pt) h1 h2 h3 h4 hS h
theorem Si {τ:Type} {run:CW} {g:FuncId} {mt:Option τ} {Pt:τ→AV×St→Prop} {S:St} {c1 c2 c3 c4 c5:AV} {f1 f2 f3 f4 f5:Bool→AV} (h1:CV 8 L false c1 f1) (h2:CV 8 L false c2 f2) (h3:CV 8 L false c3 f3) (h4:CV 8 L false c4 f4) (h5:CV 8 L false c5 f5) (hS:HP S L) (h:∀ l1 l2 l3 l4 l5,Fit (run g [f1 l1,f2 l2,f3 l3,f4 l4,f5 l5] []) mt Pt):Fit (run g ([c1,c2,c3,c4,c5].map (fz S)) []) mt Pt:=nS (M:=fun a=>Fit (run g a []) mt Pt) h1 h2 h3 h4 h5 hS h
theorem aI {τ:Type} {run:CW} {g:FuncId} {mt:Option τ} {Pt:τ→AV×St→Prop} {S:St} {c1 c2 c3 c4 c5 c6:AV} {f1 f2 f3 f4 f5 f6:Bool→AV} (h1:CV 8 L false c1 f1) (h2:CV 8 L false c2 f2) (h3:CV 8 L false c3 f3) (h4:CV 8 L false c4 f4) (h5:CV 8 L false c5 f5) (h6:CV 8 L false c6 f6) (hS:HP S L) (h:∀ l1 l2 l3 l4 l5 l6,Fit (run g [f1 l1,f2 l2,f3 l3,f4 l4,f5 l5,f6 l6] []) mt Pt):Fit (run g ([c1,c2,c3,c4,c5,c6].map (fz S)) []) mt Pt:=nR (M:=fun a=>Fit (run g a []) mt Pt) h1 h2 h3 h4 h5 h6 hS h
def I3 (x y:Int):Option Int:=if y = 0 then none else some (x.tmod y)
def PD (k:IntKind) (x y:Int):Option Int:=if y = 0 then none else some (k.wrap (x.tdiv y))
theorem jJ {G:Program} {t:TypeId} {a b:Int} {kk:IntKind} {k:AV→St→Option ρ} {mk:Int→Option τ} (hk:∀ s,I3 a b = some s→Okh L (k (.int kk s)) (mk s) P):Okh L (fun S=>pk (D1 G .rem t (.int kk a) (.int kk b)) S fun r=>k r S) ((I3 a b).bind mk) P:=fun S hS=>by
 intro y hy
 rw [Option.bind_eq_some_iff] at hy
 obtain ⟨s,hs,hm⟩:=hy
 have h1:D1 G .rem t (.int kk a) (.int kk b) = some (.int kk s):=by
  unfold I3 at hs
  by_cases h:b = 0
  ·rw [if_pos h] at hs; cases hs
  ·rw [if_neg h] at hs; injection hs with hs; subst hs
   simp [D1,h]
   rfl
 show ∃ r,pk (D1 G .rem t (.int kk a) (.int kk b)) S (fun r=>k r S) = some r∧_
 rw [h1]
 exact hk s hs S hS y hm
theorem JK {G:Program} {t:TypeId} {a b:Int} {kk:IntKind} {k:AV→St→Option ρ} {mk:Int→Option τ} (hk:∀ s,I3 a b = some s→Okh L (k (.int kk s)) (mk s) P):Okh L (fun S=>pk (HA G .rem t (.int kk a) (.int kk b)) S fun r=>k r S) ((I3 a b).bind mk) P:=jJ (G:=G) (t:=t) hk
theorem jK {G:Program} {t:TypeId} {a b:Int} {kk:IntKind} {k:AV→St→Option ρ} {mk:Int→Option τ} (hk:∀ s,PD kk a b = some s→Okh L (k (.int kk s)) (mk s) P):Okh L (fun S=>pk (D1 G .quo t (.int kk a) (.int kk b)) S fun r=>k r S) ((PD kk a b).bind mk) P:=fun S hS=>by
 intro y hy
 rw [Option.bind_eq_some_iff] at hy
 obtain ⟨s,hs,hm⟩:=hy
 have h1:D1 G .quo t (.int kk a) (.int kk b) = some (.int kk s):=by
  unfold PD at hs
  by_cases h:b = 0
  ·rw [if_pos h] at hs; cases hs
  ·rw [if_neg h] at hs; injection hs with hs; subst hs
   simp [D1,h]
   rfl
 show ∃ r,pk (D1 G .quo t (.int kk a) (.int kk b)) S (fun r=>k r S) = some r∧_
 rw [h1]
 exact hk s hs S hS y hm
theorem cO {G:Program} {t:TypeId} {a b:Int} {kk:IntKind} {k:AV→St→Option ρ} {mk:Int→Option τ} (hk:∀ s,PD kk a b = some s→Okh L (k (.int kk s)) (mk s) P):Okh L (fun S=>pk (HA G .quo t (.int kk a) (.int kk b)) S fun r=>k r S) ((PD kk a b).bind mk) P:=jK (G:=G) (t:=t) hk
end
end Go.Rf
