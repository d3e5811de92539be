/- pick: the values that a new view takes over, as the machine reckons them (it makes a map). -/
import Derived.Test.YthbiabieiopobaaGreatDoorProg
import Derived.Test.YthbiabieiopobaaGreatDoorRh19
import Derived.KernelRfl
import Derived.LoopN
namespace Go.Proofs.YthbiabieiopobaaGreatDoor
open Go Go.Rf
set_option linter.unusedVariables false
set_option linter.unusedSimpArgs false
set_option maxRecDepth 100000
abbrev iV (n:Int):AV:=.int .i64 n
def JQ:Code→Nat→Option (Array Oper)
 | .region i ops _,r=>if Nat.beq i r then some ops else none
 | .seq a b,r=>(JQ a r).orElse fun _=>JQ b r
 | .cond _ a b,r=>(JQ a r).orElse fun _=>JQ b r
 | .block _ b,r=>JQ b r
 | .loop b,r=>JQ b r
 | _,_=>none
noncomputable def pkO (r:Nat):Array Oper:=(JQ (Tryz.f99.body.getD .skip) r).getD #[]
noncomputable def pkI (r i:Nat):Oper:=(pkO r).getD i default
noncomputable def pkC:Cfg:={ P:=Tryz.prog,N:=0,md:=fun _ _=>0,cut:=fun _ _=>none,ext:=fun _=>none }
def jS:FuncId→List AV→St→Option (AV×St):=fun _ _ _=>none
noncomputable abbrev aC (r b d:Nat) (live:List Nat) (fr:List AV) (S:St):Option (List AV×St):=Gu pkC jS 99 (pkO r) (fun fr S=>some (mask live fr,S)) (((pkO r).toList.drop b).take d) [] fr S
def fM (l:List (Nat×AV)):List AV:=(List.range 72).map fun t=>((l.find? fun p=>Nat.beq p.1 t).map (·.2)).getD .non
theorem ck0 (L Rf:AV) (S:St):aC 0 0 1 [0,1] (fM [(0,L),(1,Rf)]) S =
 some (fM [(0,L),(1,Rf)],S):=by kernel_rfl
theorem ck2 (L Rf:AV) (S:St):aC 2 0 1 [0,1,6] (fM [(0,L),(1,Rf)]) S =
 some (fM [(0,L),(1,Rf),(6,iV 0)],S):=by kernel_rfl
theorem ck3 (L Rf:AV) (most:Int) (S:St):aC 3 0 3 [0,6,16,17,18] (fM [(0,L),(1,Rf),(6,iV most)]) S =
 pk (Fe Rf) S fun r1=>
 some (fM [(0,L),(6,iV most),(16,Rf),(17,r1),(18,iV 0)],S):=by kernel_rfl
theorem ck4 (L Rf:AV) (most len i:Int) (S:St):aC 4 0 1 [0,6,16,17,18,19] (fM [(0,L),(6,iV most),(16,Rf),(17,iV len),(18,iV i)]) S =
 pk (HA Tryz.prog .lss 3 (iV i) (iV len)) S fun r1=>
 some (fM [(0,L),(6,iV most),(16,Rf),(17,iV len),(18,iV i),(19,r1)],S):=by kernel_rfl
theorem ck5 (L Rf:AV) (most len i:Int) (S:St):aC 5 0 3 [0,6,8,16,17,18] (fM [(0,L),(6,iV most),(16,Rf),(17,iV len),(18,iV i)]) S =
 pk (B8 1 Rf (iV i) S) S fun r1=>
 pk (ld1 S r1) S fun r2=>
 some (fM [(0,L),(6,iV most),(8,r2),(16,Rf),(17,iV len),(18,iV i)],S):=by kernel_rfl
theorem ck6 (L Rf:AV) (most len i:Int) (r:Int) (S:St):aC 6 0 7 [0,6,16,17,18,26,27,28] (fM [(0,L),(6,iV most),(8,iV r),(16,Rf),(17,iV len),(18,iV i)]) S =
 pk (B8 7 L (iV r) S) S fun r1=>
 pk (CL r1 5 1) S fun r2=>
 pk (ld1 S r2) S fun r3=>
 pk (Fe r3) S fun r4=>
 some (fM [(0,L),(6,iV most),(16,Rf),(17,iV len),(18,iV i),(26,r3),(27,r4),(28,iV 0)],S):=by kernel_rfl
theorem ck7 (L Rf Cs:AV) (most len i ln j:Int) (S:St):aC 7 0 1 [0,6,16,17,18,26,27,28,29] (fM [(0,L),(6,iV most),(16,Rf),(17,iV len),(18,iV i),(26,Cs),(27,iV ln),(28,iV j)]) S =
 pk (HA Tryz.prog .lss 3 (iV j) (iV ln)) S fun r1=>
 some (fM [(0,L),(6,iV most),(16,Rf),(17,iV len),(18,iV i),(26,Cs),(27,iV ln),(28,iV j),(29,r1)],S):=by kernel_rfl
theorem ck8 (L Rf Cs:AV) (most len i ln j:Int) (S:St):aC 8 0 4 [0,6,10,16,17,18,26,27,28] (fM [(0,L),(6,iV most),(16,Rf),(17,iV len),(18,iV i),(26,Cs),(27,iV ln),(28,iV j)]) S =
 pk (B8 3 Cs (iV j) S) S fun r1=>
 pk (ldA S r1 3) S fun r2=>
 pe (some (A5 S [iV 0,iV 0,iV 0])) fun r3 S3=>
 pe (Aj 3 r3 r2 S3) fun r4 S4=>
 some (fM [(0,L),(6,iV most),(10,r3),(16,Rf),(17,iV len),(18,iV i),(26,Cs),(27,iV ln),(28,iV j)],S4):=by kernel_rfl
theorem ck9 (L Rf Cs Bx:AV) (most len i ln j:Int) (S:St):aC 9 0 5 [0,6,10,16,17,18,26,27,28] (fM [(0,L),(6,iV most),(10,Bx),(16,Rf),(17,iV len),(18,iV i),(26,Cs),(27,iV ln),(28,iV j)]) S =
 pk (CL Bx 0 1) S fun r1=>
 pk (ld1 S r1) S fun r2=>
 pk (amax false [iV most,r2]) S fun r3=>
 some (fM [(0,L),(6,r3),(10,Bx),(16,Rf),(17,iV len),(18,iV i),(26,Cs),(27,iV ln),(28,iV j)],S):=by kernel_rfl
theorem kI (L Rf Cs Bx:AV) (most len i ln j:Int) (S:St):aC 10 1 2 [0,6,10,16,17,18,26,27,28,39] (fM [(0,L),(6,iV most),(10,Bx),(16,Rf),(17,iV len),(18,iV i),(26,Cs),(27,iV ln),(28,iV j)]) S =
 pk (CL Bx 0 1) S fun r1=>
 pk (ld1 S r1) S fun r2=>
 some (fM [(0,L),(6,iV most),(10,Bx),(16,Rf),(17,iV len),(18,iV i),(26,Cs),(27,iV ln),(28,iV j),(39,r2)],S):=by kernel_rfl
theorem kH (L Rf Cs Bx Old:AV) (is:Bool) (most len i ln j:Int) (S:St):aC 10 4 6 [0,6,10,11,12,16,17,18,26,27,28] (fM [(0,L),(6,iV most),(10,Bx),(16,Rf),(17,iV len),(18,iV i),(26,Cs),(27,iV ln),(28,iV j),(40,AV.tup [Old,AV.bool is])]) S =
 pq (BV (AV.tup [Old,AV.bool is]) 0 S) fun r1=>
 pq (BV (AV.tup [Old,AV.bool is]) 1 S) fun r2=>
 pe (some (A5 S [iV 0,iV 0,iV 0])) fun r3 S3=>
 pe (Aj 3 r3 r1 S3) fun r4 S4=>
 some (fM [(0,L),(6,iV most),(10,Bx),(11,r3),(12,r2),(16,Rf),(17,iV len),(18,iV i),(26,Cs),(27,iV ln),(28,iV j)],S4):=by kernel_rfl
theorem ck11 (L Rf Cs Bx By:AV) (is:Bool) (most len i ln j:Int) (S:St):aC 11 0 9 [0,6,10,16,17,18,26,27,28,51] (fM [(0,L),(6,iV most),(10,Bx),(11,By),(12,AV.bool is),(16,Rf),(17,iV len),(18,iV i),(26,Cs),(27,iV ln),(28,iV j)]) S =
 pk (aun .not (AV.bool is)) S fun r1=>
 An r1 false
 (pk (CL Bx 1 1) S fun r2=>
 pk (ld1 S r2) S fun r3=>
 pk (CL By 1 1) S fun r4=>
 pk (ld1 S r4) S fun r5=>
 pk (HA Tryz.prog .gtr 2 r3 r5) S fun r6=>
 some (fM [(0,L),(6,iV most),(10,Bx),(16,Rf),(17,iV len),(18,iV i),(26,Cs),(27,iV ln),(28,iV j),(51,r6)],S))
 (some (fM [(0,L),(6,iV most),(10,Bx),(16,Rf),(17,iV len),(18,iV i),(26,Cs),(27,iV ln),(28,iV j),(51,AV.bool true)],S)):=by kernel_rfl
theorem ck12 (L Rf Cs Bx:AV) (most len i ln j:Int) (S:St):aC 12 1 3 [0,6,16,17,18,26,27,28,54,55] (fM [(0,L),(6,iV most),(10,Bx),(16,Rf),(17,iV len),(18,iV i),(26,Cs),(27,iV ln),(28,iV j)]) S =
 pk (CL Bx 0 1) S fun r1=>
 pk (ld1 S r1) S fun r2=>
 pk (ldA S Bx 3) S fun r3=>
 some (fM [(0,L),(6,iV most),(16,Rf),(17,iV len),(18,iV i),(26,Cs),(27,iV ln),(28,iV j),(54,r2),(55,r3)],S):=by kernel_rfl
theorem ck13 (L Rf Cs:AV) (most len i ln j:Int) (S:St):aC 13 0 2 [0,6,16,17,18,26,27,28] (fM [(0,L),(6,iV most),(16,Rf),(17,iV len),(18,iV i),(26,Cs),(27,iV ln),(28,iV j)]) S =
 pk (D1 Tryz.prog .add 3 (iV j) (iV 1)) S fun r1=>
 some (fM [(0,L),(6,iV most),(16,Rf),(17,iV len),(18,iV i),(26,Cs),(27,iV ln),(28,r1)],S):=by kernel_rfl
theorem ck14 (L Rf:AV) (most len i:Int) (S:St):aC 14 0 2 [0,6,16,17,18] (fM [(0,L),(6,iV most),(16,Rf),(17,iV len),(18,iV i)]) S =
 pk (D1 Tryz.prog .add 3 (iV i) (iV 1)) S fun r1=>
 some (fM [(0,L),(6,iV most),(16,Rf),(17,iV len),(18,r1)],S):=by kernel_rfl
theorem ck15 (most:Int) (S:St):aC 15 0 2 [6,13] (fM [(6,iV most)]) S =
 pq (AN (A3 Tryz.prog 24 0 [] S) S) fun r1=>
 some (fM [(6,iV most),(13,r1)],S):=by kernel_rfl
theorem ck16 (Out:AV) (most:Int) (S:St):aC 16 0 1 [6,13,14] (fM [(6,iV most),(13,Out)]) S =
 some (fM [(6,iV most),(13,Out),(14,iV 1)],S):=by kernel_rfl
theorem kG (Out:AV) (most k:Int) (S:St):aC 17 0 3 [6,13,14,61] (fM [(6,iV most),(13,Out),(14,iV k)]) S =
 pk (HA Tryz.prog .leq 2 (iV k) (iV most)) S fun r1=>
 some (fM [(6,iV most),(13,Out),(14,iV k),(61,r1)],S):=by kernel_rfl
theorem kF (Out:AV) (most k:Int) (S:St):aC 19 0 1 [6,13,14,64] (fM [(6,iV most),(13,Out),(14,iV k)]) S =
 some (fM [(6,iV most),(13,Out),(14,iV k),(64,Out)],S):=by kernel_rfl
theorem kE (Out:AV) (most k:Int) (S:St):aC 19 2 1 [6,13,14,64,66] (fM [(6,iV most),(13,Out),(14,iV k),(64,Out)]) S =
 some (fM [(6,iV most),(13,Out),(14,iV k),(64,Out),(66,iV k)],S):=by kernel_rfl
theorem kD (Out V:AV) (most k:Int) (S:St):aC 19 4 4 [6,13,14] (fM [(6,iV most),(13,Out),(14,iV k),(64,Out),(67,V)]) S =
 pk (IU V false 2 1) S fun r1=>
 pq (AN (A3 Tryz.prog 24 1 [(0,r1)] S) S) fun r2=>
 pe (BJ 1 8 Out r2 S) fun r3 S3=>
 some (fM [(6,iV most),(13,r3),(14,iV k)],S3):=by kernel_rfl
theorem ck18 (Out:AV) (most k:Int) (S:St):aC 18 0 3 [6,13,14] (fM [(6,iV most),(13,Out),(14,iV k)]) S =
 pk (D1 Tryz.prog .add 2 (iV k) (iV 1)) S fun r1=>
 some (fM [(6,iV most),(13,Out),(14,r1)],S):=by kernel_rfl
theorem ck20 (Out:AV) (most k:Int) (S:St):aC 20 0 2 [4] (fM [(6,iV most),(13,Out),(14,iV k)]) S =
 some (fM [(4,Out)],S):=by kernel_rfl
noncomputable def cZ:Code:=.seq (.region 8 (pkO 8) false) (.seq (.region 9 (pkO 9) false) (.seq (.region 10 (pkO 10) false) (.seq (.region 11 (pkO 11) false) (.cond (.tmp 51) (.region 12 (pkO 12) false) .skip))))
noncomputable def Yj:Code:=.seq (.region 7 (pkO 7) false) (.seq (.cond (.tmp 29) .skip (.exit 2)) (.seq (.block 3 cZ) (.region 13 (pkO 13) false)))
noncomputable def jT:Code:=.seq (.region 5 (pkO 5) false) (.seq (.region 6 (pkO 6) false) (.block 2 (.loop Yj)))
noncomputable def V6:Code:=.seq (.region 4 (pkO 4) false) (.seq (.cond (.tmp 19) .skip (.exit 0)) (.seq (.block 1 jT) (.region 14 (pkO 14) false)))
noncomputable def V5:Code:=.seq (.seq (.region 17 (pkO 17) false) (.cond (.tmp 61) .skip (.exit 4))) (.seq (.block 5 (.region 19 (pkO 19) false)) (.region 18 (pkO 18) false))
noncomputable def V7:Code:=.seq (.region 0 (pkO 0) false) (.seq (.region 1 (pkO 1) false) (.seq (.region 2 (pkO 2) false) (.seq (.seq (.region 3 (pkO 3) false) (.block 0 (.loop V6))) (.seq (.region 15 (pkO 15) false) (.seq (.seq (.region 16 (pkO 16) false) (.block 4 (.loop V5))) (.seq (.region 20 (pkO 20) false) .ret))))))
theorem Yi:Tryz.f99.body = some V7:=by kernel_rfl
theorem QW:Di Tryz.prog:=by
 have h : (Tryz.prog.funcs.all fun fn => !(fn.name == "runtime.NumGoroutine")) = true := by kernel_rfl
 intro g fn hg
 have:=Array.all_eq_true_iff_forall_mem.1 h fn (Array.mem_of_getElem? hg)
 simpa using this
theorem W5:Maps.Keyed Tryz.prog 2:=Maps.int_keyed (q:=.i64) (by kernel_rfl)
theorem Us:Tryz.prog.underlying 2 = some (.int .i64):=by kernel_rfl
theorem Ur:Tryz.prog.underlying 163 = some (.map 2 63):=by kernel_rfl
theorem Ul (w:World):(zeroValue 63).run Tryz.prog w = .ok (vC (0,0,0)) w:=by kernel_rfl
section
variable {g0:Nat} {X:Nat→Prop} {m0:Bd} {A0:Nat→Prop} {S0:St} {w0:World} {a0:Act}
variable {T:List Nat} {blk n:Nat} {D:DataW Value} {fr fr':List AV} {S S':St} {m:Bd} {A:Nat→Prop} {a:Act} {w:World}
abbrev Mt (g0:Nat) (X:Nat→Prop) (m0:Bd) (A0:Nat→Prop) (S0:St) (w0:World) (a0:Act):=MAt Tryz.prog 2 g0 X m0 A0 S0 w0 (List.range 72) a0
def okD (l:List Oper) (T:List Nat):Bool:=l.all fun o=>match o.dst with
 | none=>true
 | some t=>Nat.blt t 72 && !(T.any (Nat.beq t))
theorem Oj {l:List Oper} {T:List Nat} (h:okD l T = true):∀ o∈l,∀ t,o.dst = some t→t∈List.range 72∧t ∉ T:=by
 intro o ho t ht
 have:=List.all_eq_true.1 h o ho
 rw [ht] at this
 simp only [Bool.and_eq_true,Bool.not_eq_true',List.any_eq_false] at this
 refine ⟨List.mem_range.2 (by simpa [Nat.blt_eq] using this.1),fun hm=>?_⟩
 have:=this.2 t hm
 simp at this
theorem Le {r b d:Nat} {live:List Nat} {rest:List Oper} {Q:Exit→Act→World→Prop} (hck:aC r b d live fr S = some (fr',S')) (hd:okD (((pkO r).toList.drop b).take d) T = true)
  (h:Mt g0 X m0 A0 S0 w0 a0 T blk n D fr S m A a w) (hQ:∀ m A a w,Mt g0 X m0 A0 S0 w0 a0 T blk n D fr' S' m A a w→wpList Tryz.prog (pkO r) Q rest a w):wpList Tryz.prog (pkO r) Q ((((pkO r).toList.drop b).take d)++rest) a w:=
 OY (C:=pkC) (G:=fun _=>True) j6 QW (fun g args S v S1 h=>by cases h) _ [] fr S m A a w (GY.nil fr) (Oj hd) hck h trivial fun fr1 S1 m A a w hk _ hm=>by
  injection hk with hk
  injection hk with e1 e2
  subst e2
  subst e1
  exact hQ _ _ _ _ (hm.mask live)
theorem FT {r d:Nat} {live:List Nat} {Q:Exit→Act→World→Prop} (hl:(pkO r).toList = (((pkO r).toList.drop 0).take d)++[]) (hck:aC r 0 d live fr S = some (fr',S')) (hd:okD (((pkO r).toList.drop 0).take d) T = true)
  (h:Mt g0 X m0 A0 S0 w0 a0 T blk n D fr S m A a w) (hQ:∀ m A a w,Mt g0 X m0 A0 S0 w0 a0 T blk n D fr' S' m A a w→Q .normal a w):(Code.region r (pkO r) false).wp Tryz.prog Q a w:=by
 have:=Le (rest:=[]) (Q:=Q) hck hd h fun m A a w h=>hQ m A a w h
 rw [← hl] at this
 exact wp_region_list this
theorem H7 (l:List (Nat×AV)) (t:Nat) (v:AV) (ht:t < 72):(fM l).set t v = fM ((t,v)::l):=by
 apply List.ext_getElem?
 intro i
 unfold fM
 by_cases e:t = i
 ·subst e
  rw [List.getElem?_set_self (by simpa using ht)]
  simp [ht]
 ·rw [List.getElem?_set_ne e]
  simp only [List.getElem?_map]
  cases hq:(List.range 72)[i]? with
  | none=>rfl
  | some q=>
   have hi:q = i:=by
    rw [List.getElem?_eq_some_iff] at hq
    obtain ⟨h1,h2⟩:=hq
    simp at h2; exact h2.symm
   subst hi
   have:Nat.beq t q = false:=by
    rw [Bool.eq_false_iff]
    intro h
    exact e (Nat.eq_of_beq_eq_true h)
   simp [this]
theorem KT (l:List (Nat×AV)):(fM l).length = 72:=by simp [fM]
end
abbrev F1 (L Rf:AV) (most len i:Int):List (Nat×AV):=[(0,L),(6,iV most),(16,Rf),(17,iV len),(18,iV i)]
abbrev F2 (L Rf Cs:AV) (most len i ln j:Int):List (Nat×AV):=[(0,L),(6,iV most),(16,Rf),(17,iV len),(18,iV i),(26,Cs),(27,iV ln),(28,iV j)]
abbrev G2 (L Rf Cs Bx:AV) (most len i ln j:Int):List (Nat×AV):=[(0,L),(6,iV most),(10,Bx),(16,Rf),(17,iV len),(18,iV i),(26,Cs),(27,iV ln),(28,iV j)]
theorem pL10:(pkO 10).toList = pkI 10 0::((((pkO 10).toList.drop 1).take 2)++(pkI 10 3::((((pkO 10).toList.drop 4).take 6)++[]))):=by kernel_rfl
theorem pL12:(pkO 12).toList = pkI 12 0::((((pkO 12).toList.drop 1).take 3)++(pkI 12 4::[])):=by kernel_rfl
theorem pL19:(pkO 19).toList = (((pkO 19).toList.drop 0).take 1)++(pkI 19 1::((((pkO 19).toList.drop 2).take 1)++(pkI 19 3::((((pkO 19).toList.drop 4).take 4)++[])))):=by kernel_rfl
theorem pL1:(pkO 1).toList = pkI 1 0::pkI 1 1::[]:=by kernel_rfl
theorem q10 (L Rf Cs Bx:AV) (most len i ln j:Int):mask [0,6,10,16,17,18,26,27,28] (fM ((37,.non)::G2 L Rf Cs Bx most len i ln j)) = fM (G2 L Rf Cs Bx most len i ln j):=by kernel_rfl
theorem q10b (L Rf Cs Bx V K:AV) (most len i ln j:Int):mask [0,6,10,16,17,18,26,27,28,40] (fM ((40,V)::[(0,L),(6,iV most),(10,Bx),(16,Rf),(17,iV len),(18,iV i),(26,Cs),(27,iV ln),(28,iV j),(39,K)])) = fM [(0,L),(6,iV most),(10,Bx),(16,Rf),(17,iV len),(18,iV i),(26,Cs),(27,iV ln),(28,iV j),(40,V)]:=by kernel_rfl
theorem q11 (L Rf Cs Bx V:AV) (most len i ln j:Int):mask [0,6,16,17,18,26,27,28] (fM [(0,L),(6,iV most),(10,Bx),(16,Rf),(17,iV len),(18,iV i),(26,Cs),(27,iV ln),(28,iV j),(51,V)]) = fM (F2 L Rf Cs most len i ln j):=by kernel_rfl
theorem q11b (L Rf Cs Bx V:AV) (most len i ln j:Int):mask [0,6,10,16,17,18,26,27,28] (fM [(0,L),(6,iV most),(10,Bx),(16,Rf),(17,iV len),(18,iV i),(26,Cs),(27,iV ln),(28,iV j),(51,V)]) = fM (G2 L Rf Cs Bx most len i ln j):=by kernel_rfl
theorem q12 (L Rf Cs Bx:AV) (most len i ln j:Int):mask [0,6,10,16,17,18,26,27,28] (fM ((52,.non)::G2 L Rf Cs Bx most len i ln j)) = fM (G2 L Rf Cs Bx most len i ln j):=by kernel_rfl
theorem q12b (L Rf Cs V K:AV) (most len i ln j:Int):mask [0,6,16,17,18,26,27,28] (fM [(0,L),(6,iV most),(16,Rf),(17,iV len),(18,iV i),(26,Cs),(27,iV ln),(28,iV j),(54,K),(55,V)]) = fM (F2 L Rf Cs most len i ln j):=by kernel_rfl
theorem Fa {t:Nat} (h:t < 72):t∈List.range 72:=List.mem_range.2 h
section
variable {g0:Nat} {X:Nat→Prop} {m0:Bd} {A0:Nat→Prop} {S0:St} {w0:World} {a0:Act}
variable {blk n:Nat} {D:DataW Value} {S:St} {m:Bd} {A:Nat→Prop} {a:Act} {w:World} {Q:Exit→Act→World→Prop}
theorem kK (L Rf Cs:AV) (most len i ln j:Int) (c:Int×Int×Int) (b:Int→Option (Int×Int×Int)) (l:Bool) (hwf:(Lit.int .i64 c.1).wf = true) (hCs:∀ S,B8 3 Cs (.int .i64 j) S = some (.rp l (cAV c)))
  (h:Mt g0 X m0 A0 S0 w0 a0 [5,15] blk n D (fM (F2 L Rf Cs most len i ln j)) S m A a w) (hD:Iu D b) (hn:n < maxLen)
  (hQ:∀ n' D' S m A a w,n'≤n + 1→Mt g0 X m0 A0 S0 w0 a0 [5,15] blk n' D' (fM (F2 L Rf Cs (D3 (b,most) c).2 len i ln j)) S m A a w→Iu D' (D3 (b,most) c).1→Q .normal a w):cZ.wp Tryz.prog Q a w:=by
 unfold cZ
 refine wp_seq (FT (d:=4) (by kernel_rfl) ((ck8 L Rf Cs most len i ln j S).trans (BN (hCs S)<|BN (v:=.agg (cAV c)) rfl<|Of (congrArg some (jU S))<|Of (iU S _ rfl ⟨_,rfl,rfl⟩ rfl rfl c) rfl)) (by kernel_rfl) h fun m A a w h=>?_)
 have hb:(S++[bxC c])[S.length]? = some (bxC c):=by simp
 generalize S++[bxC c] = S1 at h hb
 generalize S.length = bx at h hb
 refine wp_seq (FT (d:=5) (by kernel_rfl) ((ck9 L Rf Cs (.bp bx 0 0 3 1) most len i ln j S1).trans (BN (v:=.bp bx 0 0 1 1) rfl<|BN (ldf hb).1<|BN (v:=.int .i64 (D3 (b,most) c).2) rfl rfl)) (by kernel_rfl) h fun m A a w h=>?_)
 generalize hmo:(D3 (b,most) c).2 = mo at h hQ
 refine wp_seq (wp_region_list ?_)
 rw [pL10]
 refine HZ (s:=5) (d:=37) (by kernel_rfl) (.inl (by kernel_rfl)) (by kernel_rfl) (Fa (by decide)) (by decide) (by rw [KT]; decide) h fun a h=>?_
 have h:=((h.cast (H7 _ _ _ (by decide))).mask _).cast (q10 L Rf Cs (.bp bx 0 0 3 1) mo len i ln j)
 refine Le (b:=1) (d:=2) ((kI L Rf Cs (.bp bx 0 0 3 1) mo len i ln j S1).trans (BN (v:=.bp bx 0 0 1 1) rfl<|BN (ldf hb).1 rfl)) (by kernel_rfl) h fun m A a w h=>?_
 refine Wx (s:=37) (d:=40) (x:=.tmp 39) (val:=.agg (cAV ((b c.1).getD (0,0,0)))) W5 Us Ur Ul (by kernel_rfl) (by kernel_rfl) (by kernel_rfl) (Fa (by decide)) (by decide) (by decide) h (by kernel_rfl) hwf (hD.2 c.1).2 (QE _) fun a h=>?_
 rw [(hD.2 c.1).1] at h
 have h:=((h.cast (H7 _ _ _ (by decide))).mask _).cast (q10b L Rf Cs (.bp bx 0 0 3 1) _ _ mo len i ln j)
 refine Le (b:=4) (d:=6) ((kH L Rf Cs (.bp bx 0 0 3 1) (.agg (cAV ((b c.1).getD (0,0,0)))) (b c.1).isSome mo len i ln j S1).trans (Ob (S:=S1) (v:=.agg (cAV ((b c.1).getD (0,0,0)))) rfl<|Ob (S:=S1) (v:=.bool (b c.1).isSome) rfl<|Of (congrArg some (jU S1))<|Of (iU S1 _ rfl ⟨_,rfl,rfl⟩ rfl rfl _) rfl)) (by kernel_rfl) h fun m A a w h=>wpList_nil ?_
 have hb2:(S1++[bxC ((b c.1).getD (0,0,0))])[bx]? = some (bxC c):=by
  rw [List.getElem?_append_left (List.getElem?_eq_some_iff.1 hb).1]; exact hb
 have hb3:(S1++[bxC ((b c.1).getD (0,0,0))])[S1.length]? = some (bxC ((b c.1).getD (0,0,0))):=by simp
 generalize S1++[bxC ((b c.1).getD (0,0,0))] = S2 at h hb2 hb3
 generalize S1.length = by_ at h hb3
 have key:aC 11 0 9 [0,6,10,16,17,18,26,27,28,51] (fM [(0,L),(6,iV mo),(10,.bp bx 0 0 3 1),(11,.bp by_ 0 0 3 1),(12,AV.bool (b c.1).isSome),(16,Rf),(17,iV len),(18,iV i),(26,Cs),(27,iV ln),(28,iV j)]) S2 = some (fM [(0,L),(6,iV mo),(10,.bp bx 0 0 3 1),(16,Rf),(17,iV len),(18,iV i),(26,Cs),(27,iV ln),(28,iV j),(51,AV.bool (Om b c))],S2):=by
  rw [ck11]
  unfold Om
  cases hbc:b c.1 with
  | none=>rfl
  | some o=>
   rw [hbc] at hb3
   refine BN (v:=.bool false) rfl ?_
   refine TI (b:=false) (fun h=>by cases h) fun _=>?_
   exact BN (v:=.bp bx 0 1 1 1) rfl<|BN (ldf hb2).2.1<|BN (v:=.bp by_ 0 1 1 1) rfl<|BN (ldf hb3).2.1<|BN (v:=.bool (decide (c.2.1 > o.2.1))) rfl rfl
 refine wp_seq (FT (d:=9) (by kernel_rfl) key (by kernel_rfl) h fun m A a w h=>?_)
 refine wp_cond (t:=Om b c) (h.at_.evalB (by kernel_rfl)) ?_
 cases hnw:Om b c
 ·have h1:(D3 (b,most) c).1 = b:=by simp [D3,hnw]
  rw [h1] at hQ
  exact wp_skip (hQ n D _ _ _ _ _ (Nat.le_succ _) (((h.mask _).cast (q11 L Rf Cs (.bp bx 0 0 3 1) _ mo len i ln j)).less (by simp)) hD)
 ·have h1:(D3 (b,most) c).1 = XR b c:=by simp [D3,hnw]
  rw [h1] at hQ
  rw [if_pos rfl]
  refine wp_region_list ?_
  rw [pL12]
  have h:=(h.mask _).cast (q11b L Rf Cs (.bp bx 0 0 3 1) _ mo len i ln j)
  refine HZ (s:=5) (d:=52) (by kernel_rfl) (.inl (by kernel_rfl)) (by kernel_rfl) (Fa (by decide)) (by decide) (by rw [KT]; decide) h fun a h=>?_
  have h:=((h.cast (H7 _ _ _ (by decide))).mask _).cast (q12 L Rf Cs (.bp bx 0 0 3 1) mo len i ln j)
  refine Le (b:=1) (d:=3) ((ck12 L Rf Cs (.bp bx 0 0 3 1) mo len i ln j S2).trans (BN (v:=.bp bx 0 0 1 1) rfl<|BN (ldf hb2).1<|BN (ldf hb2).2.2 rfl)) (by kernel_rfl) h fun m A a w h=>?_
  refine Yf (s:=52) (x:=.tmp 54) (y:=.tmp 55) (val:=.agg (cAV c)) W5 Us Ur (by kernel_rfl) (by kernel_rfl) (by kernel_rfl) (by decide) hn h (by kernel_rfl) hwf (by kernel_rfl) (fun cv=>Un) fun w h=>wpList_nil ?_
  exact hQ (n + 1) _ _ _ _ _ _ (Nat.le_refl _) (((h.mask _).cast (q12b L Rf Cs _ _ mo len i ln j)).less (by simp)) (hD.put c)
end
theorem q7 (L Rf Cs V:AV) (most len i ln j:Int):mask [0,6,16,17,18,26,27,28] (fM [(0,L),(6,iV most),(16,Rf),(17,iV len),(18,iV i),(26,Cs),(27,iV ln),(28,iV j),(29,V)]) = fM (F2 L Rf Cs most len i ln j):=by kernel_rfl
theorem q7b (L Rf Cs V:AV) (most len i ln j:Int):mask [0,6,16,17,18] (fM [(0,L),(6,iV most),(16,Rf),(17,iV len),(18,iV i),(26,Cs),(27,iV ln),(28,iV j),(29,V)]) = fM (F1 L Rf most len i):=by kernel_rfl
theorem q4 (L Rf V:AV) (most len i:Int):mask [0,6,16,17,18] (fM [(0,L),(6,iV most),(16,Rf),(17,iV len),(18,iV i),(19,V)]) = fM (F1 L Rf most len i):=by kernel_rfl
theorem q4b (L Rf V:AV) (most len i:Int):mask [6] (fM [(0,L),(6,iV most),(16,Rf),(17,iV len),(18,iV i),(19,V)]) = fM [(6,iV most)]:=by kernel_rfl
theorem oC {j:Nat} (h:j≤1048576) (L Rf Cs:AV) (most len i ln:Int) (S:St):aC 13 0 2 [0,6,16,17,18,26,27,28] (fM (F2 L Rf Cs most len i ln j)) S = some (fM (F2 L Rf Cs most len i ln ((j + 1:Nat):Int)),S):=by
 refine (ck13 L Rf Cs most len i ln j S).trans (BN (v:=.int .i64 ((j + 1:Nat):Int)) ?_ rfl)
 show some (iV (IntKind.i64.wrap ((j:Int) + 1))) = _
 rw [w64 (by omega) (by omega)]; rfl
theorem n9 {i:Nat} (h:i≤1048576) (L Rf:AV) (most len:Int) (S:St):aC 14 0 2 [0,6,16,17,18] (fM (F1 L Rf most len i)) S = some (fM (F1 L Rf most len ((i + 1:Nat):Int)),S):=by
 refine (ck14 L Rf most len i S).trans (BN (v:=.int .i64 ((i + 1:Nat):Int)) ?_ rfl)
 show some (iV (IntKind.i64.wrap ((i:Int) + 1))) = _
 rw [w64 (by omega) (by omega)]; rfl
def okC (cs:List (Int×Int×Int)):Prop:=∀ c∈cs,0≤c.1∧c.1≤1000
theorem NK {k:Int} (h:0≤k∧k≤1000):(Lit.int .i64 k).wf = true:=by
 simp [Lit.wf,IntKind.min,IntKind.max,IntKind.bits,IntKind.signed]
 omega
section
variable {g0:Nat} {X:Nat→Prop} {m0:Bd} {A0:Nat→Prop} {S0:St} {w0:World} {a0:Act}
variable {Q:Exit→Act→World→Prop}
theorem ZZ (L Rf:AV) (len i:Int) (l fl:Bool) (cs:List (Int×Int×Int)) (hc:okC cs) (hl:cs.length≤100000):∀ (k j:Nat),j + k = cs.length→∀ (n:Nat) (D:DataW Value) (S:St) (m:Bd) (A:Nat→Prop) (a:Act) (w:World) (blk:Nat) (st:(Int→Option (Int×Int×Int))×Int),
  Mt g0 X m0 A0 S0 w0 a0 [5,15] blk n D (fM (F2 L Rf (.rsl l fl (cs.map cAV)) st.2 len i cs.length j)) S m A a w→Iu D st.1→n + k < maxLen →
  (∀ n' D' S m A a w,n'≤n + k→Mt g0 X m0 A0 S0 w0 a0 [5,15] blk n' D' (fM (F1 L Rf ((cs.drop j).foldl D3 st).2 len i)) S m A a w→Iu D' ((cs.drop j).foldl D3 st).1→Q (.exit 2) a w)→Code.rounds Tryz.prog Yj Q (k + 1) a w
 | 0,j,hj,n,D,S,m,A,a,w,blk,st,h,hD,hn,hQ=>by
  have e:j = cs.length:=by omega
  subst e
  rw [rounds_succ]
  unfold Yj
  refine wp_seq (FT (d:=1) (by kernel_rfl) ((ck7 L Rf _ st.2 len i cs.length cs.length S).trans (BN (v:=.bool false) (by show some (AV.bool (decide ((cs.length:Int) < cs.length))) = _; simp) rfl)) (by kernel_rfl) h fun m A a w h=>?_)
  refine wp_seq (wp_cond (t:=false) (h.at_.evalB (by kernel_rfl)) (wp_exit ?_))
  rw [List.drop_length,List.foldl_nil] at hQ
  exact hQ n D _ _ _ _ _ (Nat.le_refl _) ((h.mask _).cast (q7b L Rf _ _ _ len i _ _)) hD
 | k + 1,j,hj,n,D,S,m,A,a,w,blk,st,h,hD,hn,hQ=>by
  have hlt:j < cs.length:=by omega
  rw [rounds_succ]
  unfold Yj
  refine wp_seq (FT (d:=1) (by kernel_rfl) ((ck7 L Rf _ st.2 len i cs.length j S).trans (BN (v:=.bool true) (by show some (AV.bool (decide ((j:Int) < cs.length))) = _; simp [hlt]) rfl)) (by kernel_rfl) h fun m A a w h=>?_)
  refine wp_seq (wp_cond (t:=true) (h.at_.evalB (by kernel_rfl)) (wp_skip ?_))
  have h:=(h.mask _).cast (q7 L Rf _ _ _ len i _ _)
  refine wp_seq (wp_block (kK L Rf _ st.2 len i cs.length j cs[j] st.1 l (NK (hc _ (List.getElem_mem hlt))) (fun S=>IA rfl (by simp [hlt]) rfl) h hD (by omega) fun n' D' S m A a w hn' h hD'=>?_))
  refine FT (d:=2) (by kernel_rfl) (oC (by omega) L Rf _ _ len i _ _) (by kernel_rfl) h fun m A a w h=>?_
  refine ZZ L Rf len i l fl cs hc hl k (j + 1) (by omega) n' D' _ _ _ _ _ blk (D3 st cs[j]) h hD' (by omega) fun n2 D2 S m A a w hn2 h hD2=>?_
  have e:(cs.drop j).foldl D3 st = (cs.drop (j + 1)).foldl D3 (D3 st cs[j]):=by
   rw [List.drop_eq_getElem_cons hlt,List.foldl_cons]
  rw [e] at hQ
  exact hQ n2 D2 S m A a w (by omega) h hD2
theorem iO {e:List AV} {x:AV} {k:Nat} (h:e[k]? = some x):(e.drop k).take 1 = [x]:=by
 obtain ⟨h1,h2⟩:=List.getElem?_eq_some_iff.1 h
 rw [List.drop_eq_getElem_cons h1,h2]; rfl
theorem aA (l fl l2 fl2:Bool) (rows:List (List AV)) (rs:List Int) (css:List (List (Int×Int×Int))) (hlen:css.length = rs.length) (hR:∀ (i:Nat) (h:i < rs.length),Su rows rs[i] (css[i]'(by omega))) (hc:VC css) (hl:rs.length≤1000) :
  ∀ (k i:Nat),i + k = rs.length→∀ (n:Nat) (D:DataW Value) (S:St) (m:Bd) (A:Nat→Prop) (a:Act) (w:World) (blk:Nat) (st:(Int→Option (Int×Int×Int))×Int),
  Mt g0 X m0 A0 S0 w0 a0 [5,15] blk n D (fM (F1 (.rsl l fl rows) (.rsl l2 fl2 (rs.map fun r=>[.int .i64 r])) st.2 rs.length i)) S m A a w→Iu D st.1→n≤1000 * i →
  (∀ n' D' S m A a w,Mt g0 X m0 A0 S0 w0 a0 [5,15] blk n' D' (fM [(6,iV ((css.drop i).flatten.foldl D3 st).2)]) S m A a w→Iu D' ((css.drop i).flatten.foldl D3 st).1→Q (.exit 0) a w)→Code.rounds Tryz.prog V6 Q (k + 1) a w
 | 0,i,hj,n,D,S,m,A,a,w,blk,st,h,hD,hn,hQ=>by
  have e:i = rs.length:=by omega
  subst e
  rw [rounds_succ]
  unfold V6
  refine wp_seq (FT (d:=1) (by kernel_rfl) ((ck4 _ _ st.2 rs.length rs.length S).trans (BN (v:=.bool false) (by show some (AV.bool (decide ((rs.length:Int) < rs.length))) = _; simp) rfl)) (by kernel_rfl) h fun m A a w h=>?_)
  refine wp_seq (wp_cond (t:=false) (h.at_.evalB (by kernel_rfl)) (wp_exit ?_))
  rw [← hlen,List.drop_length,List.flatten_nil,List.foldl_nil] at hQ
  exact hQ n D _ _ _ _ _ ((h.mask _).cast (q4b _ _ _ _ _ _)) hD
 | k + 1,i,hj,n,D,S,m,A,a,w,blk,st,h,hD,hn,hQ=>by
  have hlt:i < rs.length:=by omega
  have hlt2:i < css.length:=by omega
  have hmx:(1048576:Nat) < maxLen:=by decide
  obtain ⟨h0,e,le,fe,he,hle,h5⟩:=hR i hlt
  obtain ⟨hcs,hcl⟩:=hc _ (List.getElem_mem hlt2)
  rw [rounds_succ]
  unfold V6
  refine wp_seq (FT (d:=1) (by kernel_rfl) ((ck4 _ _ st.2 rs.length i S).trans (BN (v:=.bool true) (by show some (AV.bool (decide ((i:Int) < rs.length))) = _; simp [hlt]) rfl)) (by kernel_rfl) h fun m A a w h=>?_)
  refine wp_seq (wp_cond (t:=true) (h.at_.evalB (by kernel_rfl)) (wp_skip ?_))
  have h:=(h.mask _).cast (q4 _ _ _ _ _ _)
  refine wp_seq (wp_block ?_)
  unfold jT
  refine wp_seq (FT (d:=3) (by kernel_rfl) ((ck5 _ _ st.2 rs.length i S).trans (BN (v:=.rp l2 [iV rs[i]]) (IA rfl (by simp [hlt]) rfl)<|BN (v:=iV rs[i]) rfl rfl)) (by kernel_rfl) h fun m A a w h=>?_)
  refine wp_seq (FT (d:=7) (by kernel_rfl) ((ck6 _ _ st.2 rs.length i rs[i] S).trans (BN (v:=.rp l e) (IA (n:=rs[i].toNat) (by omega) he hle)<|BN (v:=.rp l [.rsl le fe ((css[i]).map cAV)]) (by show some (AV.rp l ((e.drop 5).take 1)) = _; rw [iO h5])<|BN (v:=.rsl le fe ((css[i]).map cAV)) rfl<|BN (v:=.int .i64 (css[i]).length) (by show some (iV ((css[i]).map cAV).length) = _; rw [List.length_map]) rfl)) (by kernel_rfl) h fun m A a w h=>?_)
  refine wp_block (wp_loop_rounds ((css[i]).length + 1) ?_)
  refine ZZ _ _ rs.length i le fe (css[i]) hcs (by omega) (css[i]).length 0 (by omega) n D _ _ _ _ _ blk st h hD (by omega) fun n' D' S m A a w hn' h hD'=>?_
  refine FT (d:=2) (by kernel_rfl) (n9 (by omega) _ _ _ _ _) (by kernel_rfl) h fun m A a w h=>?_
  have e2:(css.drop i).flatten.foldl D3 st = (css.drop (i + 1)).flatten.foldl D3 ((css[i]).foldl D3 st):=by
   rw [List.drop_eq_getElem_cons hlt2,List.flatten_cons,List.foldl_append]
  rw [e2] at hQ
  rw [List.drop_zero] at h hD'
  exact aA l fl l2 fl2 rows rs css hlen hR hc hl k (i + 1) (by omega) n' D' _ _ _ _ _ blk _ h hD' (by omega) hQ
end
theorem q19 (Out:AV) (most k:Int):mask [6,13,14,64] (fM ((65,.non)::[(6,iV most),(13,Out),(14,iV k),(64,Out)])) = fM [(6,iV most),(13,Out),(14,iV k),(64,Out)]:=by kernel_rfl
theorem q19b (Out V K:AV) (most k:Int):mask [6,13,14,64,67] (fM ((67,V)::[(6,iV most),(13,Out),(14,iV k),(64,Out),(66,K)])) = fM [(6,iV most),(13,Out),(14,iV k),(64,Out),(67,V)]:=by kernel_rfl
theorem q17 (Out V:AV) (most k:Int):mask [6,13,14] (fM [(6,iV most),(13,Out),(14,iV k),(61,V)]) = fM [(6,iV most),(13,Out),(14,iV k)]:=by kernel_rfl
theorem q1 (L Rf:AV):mask [0,1] (fM ((5,.non)::(15,.non)::[(0,L),(1,Rf)])) = fM [(0,L),(1,Rf)]:=by kernel_rfl
theorem q0 (L Rf:AV):mask [0,1] ([L,Rf]++List.replicate (72 - 2) und) = fM [(0,L),(1,Rf)]:=by kernel_rfl
theorem qB (x:Int) (S:St):AN (A3 Tryz.prog 24 1 [(0,.int .i64 x)] S) S = some (.rsl false true [[.int .i64 x]],S):=by kernel_rfl
theorem qE (S:St):AN (A3 Tryz.prog 24 0 [] S) S = some (.rsl false true [],S):=by kernel_rfl
theorem pL0:(pkO 0).toList = (((pkO 0).toList.drop 0).take 1):=by kernel_rfl
theorem n8 {k:Int} (h:0≤k∧k≤1048576) (Out:AV) (most:Int) (S:St):aC 18 0 3 [6,13,14] (fM [(6,iV most),(13,Out),(14,iV k)]) S = some (fM [(6,iV most),(13,Out),(14,iV (k + 1))],S):=by
 refine (ck18 Out most k S).trans (BN (v:=.int .i64 (k + 1)) ?_ rfl)
 show some (iV (IntKind.i64.wrap (k + 1))) = _
 rw [w64 (by omega) (by omega)]
section
variable {g0:Nat} {X:Nat→Prop} {m0:Bd} {A0:Nat→Prop} {S0:St} {w0:World} {a0:Act}
variable {Q:Exit→Act→World→Prop}
theorem ZY (most:Nat) (hm:most≤1000) (b:Int→Option (Int×Int×Int)):∀ (k i:Nat),i + k = most→∀ (n:Nat) (D:DataW Value) (S:St) (m:Bd) (A:Nat→Prop) (a:Act) (w:World) (blk:Nat) (Out:AV),
  Mt g0 X m0 A0 S0 w0 a0 [5,15] blk n D (fM [(6,iV most),(13,Out),(14,iV ((i:Int) + 1))]) S m A a w→Iu D b→Pe S Out (HC b i) →
  (∀ S m A a w Out z,Mt g0 X m0 A0 S0 w0 a0 [5,15] blk n D (fM [(6,iV most),(13,Out),(14,iV z)]) S m A a w→Pe S Out (HC b most)→Q (.exit 4) a w)→Code.rounds Tryz.prog V5 Q (k + 1) a w
 | 0,i,hj,n,D,S,m,A,a,w,blk,Out,h,hD,hO,hQ=>by
  have e:i = most:=by omega
  subst e
  rw [rounds_succ]
  unfold V5
  refine wp_seq (wp_seq (FT (d:=3) (by kernel_rfl) ((kG Out i _ S).trans (BN (v:=.bool false) (by show some (AV.bool (decide (((i:Int) + 1)≤i))) = _; congr 2; rw [decide_eq_false_iff_not]; omega) rfl)) (by kernel_rfl) h fun m A a w h=>?_))
  refine wp_cond (t:=false) (h.at_.evalB (by kernel_rfl)) (wp_exit ?_)
  exact hQ _ _ _ _ _ _ _ ((h.mask _).cast (q17 Out _ _ _)) hO
 | k + 1,i,hj,n,D,S,m,A,a,w,blk,Out,h,hD,hO,hQ=>by
  have hlen:(HC b i).length = i:=by simp [HC]
  rw [rounds_succ]
  unfold V5
  refine wp_seq (wp_seq (FT (d:=3) (by kernel_rfl) ((kG Out most _ S).trans (BN (v:=.bool true) (by show some (AV.bool (decide (((i:Int) + 1)≤most))) = _; congr 2; rw [decide_eq_true_iff]; omega) rfl)) (by kernel_rfl) h fun m A a w h=>?_))
  refine wp_cond (t:=true) (h.at_.evalB (by kernel_rfl)) (wp_skip ?_)
  have h:=(h.mask _).cast (q17 Out _ _ _)
  refine wp_seq (wp_block (wp_region_list ?_))
  rw [pL19]
  refine Le (b:=0) (d:=1) (kF Out most _ S) (by kernel_rfl) h fun m A a w h=>?_
  refine HZ (s:=5) (d:=65) (by kernel_rfl) (.inl (by kernel_rfl)) (by kernel_rfl) (Fa (by decide)) (by decide) (by rw [KT]; decide) h fun a h=>?_
  have h:=((h.cast (H7 _ _ _ (by decide))).mask _).cast (q19 Out most _)
  refine Le (b:=2) (d:=1) (kE Out most _ S) (by kernel_rfl) h fun m A a w h=>?_
  refine Wy (s:=65) (d:=67) (x:=.tmp 66) (val:=.agg (cAV ((b ((i:Int) + 1)).getD (0,0,0)))) W5 Us Ur Ul (by kernel_rfl) (by kernel_rfl) (by kernel_rfl) (Fa (by decide)) (by decide) (by decide) h (by kernel_rfl) (NK (by omega)) (hD.2 ((i:Int) + 1)).2 (QE _) fun a h=>?_
  have h:=((h.cast (H7 _ _ _ (by decide))).mask _).cast (q19b Out _ _ most _)
  obtain ⟨Out2,S2,ho1,ho2⟩:=Yk hO (by omega) ((b ((i:Int) + 1)).getD (0,0,0)).2.2
  refine Le (b:=4) (d:=4) ((kD Out (.agg (cAV ((b ((i:Int) + 1)).getD (0,0,0)))) most _ S).trans (BN (v:=.int .i64 ((b ((i:Int) + 1)).getD (0,0,0)).2.2) rfl<|Ob (qB _ S)<|Of ho1 rfl)) (by kernel_rfl) h fun m A a w h=>wpList_nil ?_
  refine FT (d:=3) (by kernel_rfl) (n8 (by omega) Out2 most S2) (by kernel_rfl) (h.less (T':=[5,15]) (by simp)) fun m A a w h=>?_
  have ev:HC b (i + 1) = HC b i++[((b ((i:Int) + 1)).getD (0,0,0)).2.2]:=by
   unfold HC
   rw [List.range_succ,List.map_append]; rfl
  rw [← ev] at ho2
  exact ZY most hm b k (i + 1) (by omega) n D S2 _ _ _ _ blk Out2 h hD ho2 hQ
theorem Ta {m:Bd} {A:Nat→Prop} {S:St} {w:World} (l fl l2 fl2:Bool) (rows:List (List AV)) (rs:List Int) (css:List (List (Int×Int×Int))) (hlen:css.length = rs.length) (hR:∀ (i:Nat) (h:i < rs.length),Su rows rs[i] (css[i]'(by omega))) (hc:VC css) (hl:rs.length≤1000)
  {cargs:Array Value} (hr:Rel g0 X m A S w) (ha:CR X m A S w [.rsl l fl rows,.rsl l2 fl2 (rs.map fun r=>[.int .i64 r])] cargs) :
  Calls Tryz.prog 99 cargs w fun e w'=>∃ v S1,Pe S1 v (Gp css)∧ED g0 X m A S w v S1 e w':=by
 have hsz:cargs.size = 2:=ha.1.symm
 refine calls_of_wp (fn:=Tryz.f99) (by kernel_rfl) Yi ?_
 have hf:FR X m A S w ([.rsl l fl rows,.rsl l2 fl2 (rs.map fun r=>[.int .i64 r])]++List.replicate (72 - 2) und) { tmps:=cargs++Array.replicate (Tryz.f99.ntmps - cargs.size) undef,defers:=[] }:=by
  have hnt:Tryz.f99.ntmps = 72:=by kernel_rfl
  refine ⟨by simp [hsz,hnt],fun t v cv h1 h2=>?_⟩
  dsimp only at h2
  by_cases ht:t < 2
  ·rw [List.getElem?_append_left (by simpa using ht)] at h1
   rw [Array.getElem?_append_left (by omega)] at h2
   exact ha.2 t v cv h1 h2
  ·rw [List.getElem?_append_right (by simp; omega)] at h1
   rw [Array.getElem?_append_right (by omega)] at h2
   have e1:v = und:=by
    rw [List.getElem?_replicate] at h1; split at h1 <;> simp at h1; exact h1.symm
   have e2:cv = undef:=by
    rw [Array.getElem?_replicate] at h2; split at h2 <;> simp at h2; exact h2.symm
   subst e1; subst e2; exact VR.und
 generalize hact:({ tmps:=cargs++Array.replicate (Tryz.f99.ntmps - cargs.size) undef,defers:=[] }:Act) = a0 at hf
 have hd0:a0.defers = []:=by rw [← hact]
 have hat:At g0 X m A S w (List.range 72) a0 _ S m A a0 w:=⟨hr,Ext.refl _ _ _ _,hf,hd0,DT.refl _ _⟩
 have hat:=hat.mask [0,1]
 rw [q0] at hat
 unfold V7
 refine wp_seq (wp_region_list ?_)
 have h0:=NG (C:=pkC) (G:=fun _=>True) (f:=99) (ops:=pkO 0) (k:=fun fr S=>some (mask [0,1] fr,S)) (r:=(fM [(0,.rsl l fl rows),(1,.rsl l2 fl2 (rs.map fun r=>[.int .i64 r]))],S)) (Q:=Exit.then (Code.wp Tryz.prog (.seq (.region 1 (pkO 1) false) (.seq (.region 2 (pkO 2) false) (.seq (.seq (.region 3 (pkO 3) false) (.block 0 (.loop V6))) (.seq (.region 15 (pkO 15) false) (.seq (.seq (.region 16 (pkO 16) false) (.block 4 (.loop V5))) (.seq (.region 20 (pkO 20) false) .ret)))))) (bodyPost Tryz.prog Tryz.f99 fun e w'=>∃ v S1,Pe S1 v (Gp css)∧ED g0 X m A S w v S1 e w')) (bodyPost Tryz.prog Tryz.f99 fun e w'=>∃ v S1,Pe S1 v (Gp css)∧ED g0 X m A S w v S1 e w'))
  j6 QW (fun g args S v S1 h=>by cases h) (fun fr1 S1 m1 A1 a w1 hk hat=>by
   injection hk with hk
   injection hk with e1 e2
   subst e2
   have hat:=hat.mask [0,1]
   rw [e1] at hat
   refine wp_seq (wp_region_list ?_)
   rw [pL1]
   refine VV (kt:=2) (t:=163) (d:=15) (by kernel_rfl) (by kernel_rfl) (by kernel_rfl) (Fa (by decide)) (by rw [KT]; decide) hat fun A a w blk h=>?_
   refine HZ (s:=15) (d:=5) (by kernel_rfl) (.inr (by kernel_rfl)) (by kernel_rfl) (Fa (by decide)) (by decide) (by rw [List.length_set,KT]; decide) h fun a h=>wpList_nil ?_
   rw [H7 _ _ _ (by decide),H7 _ _ _ (by decide)] at h
   have h:=(h.mask _).cast (q1 _ _)
   refine wp_seq (FT (d:=1) (by kernel_rfl) (ck2 _ _ _) (by kernel_rfl) h fun m A a w h=>?_)
   refine wp_seq (wp_seq (FT (d:=3) (by kernel_rfl) ((ck3 _ _ 0 _).trans (BN (v:=iV rs.length) (by show some (iV (rs.map fun r=>[iV r]).length) = _; rw [List.length_map]) rfl)) (by kernel_rfl) h fun m A a w h=>?_))
   refine wp_block (wp_loop_rounds (rs.length + 1) ?_)
   refine aA l fl l2 fl2 rows rs css hlen hR hc hl rs.length 0 (by omega) 0 (.map []) _ _ _ _ _ blk (fun _=>none,0) h Iu.nil (by omega) fun n' D' S2 m A a w h hD=>?_
   rw [List.drop_zero] at h hD
   change Mt g0 X _ _ _ _ _ _ _ _ _ (fM [(6,iV (He css).2)]) _ _ _ _ _ at h
   change Iu D' (He css).1 at hD
   have hmost:0≤(He css).2∧(He css).2≤1000:=RA _ _ (fun c hx=>by
    obtain ⟨cs,h1,h2⟩:=List.mem_flatten.1 hx
    exact (hc cs h1).1 c h2) ⟨Int.le_refl _,by decide⟩
   obtain ⟨most,hmo⟩:∃ k:Nat,(He css).2 = k:=⟨(He css).2.toNat,by omega⟩
   rw [hmo] at h
   have hv:Gp css = HC (He css).1 most:=by unfold Gp; rw [hmo]; rfl
   refine wp_seq (FT (d:=2) (by kernel_rfl) ((ck15 _ _).trans (Ob (qE _) rfl)) (by kernel_rfl) h fun m A a w h=>?_)
   refine wp_seq (wp_seq (FT (d:=1) (by kernel_rfl) (ck16 _ _ _) (by kernel_rfl) h fun m A a w h=>?_))
   refine wp_block (wp_loop_rounds (most + 1) ?_)
   refine ZY most (by omega) (He css).1 most 0 (by omega) n' D' _ _ _ _ _ blk _ h hD (.inl ⟨rfl,rfl⟩) fun S3 m A a w Out z h hO=>?_
   refine wp_seq (FT (d:=2) (by kernel_rfl) (ck20 _ _ _ _) (by kernel_rfl) h fun m A a w h=>?_)
   refine wp_ret ?_
   have hv':Dm pkC (fM [(4,Out)]) S3 Tryz.f99.results.toList = some Out:=by kernel_rfl
   obtain ⟨u,h1,h2⟩:=Jl (C:=pkC) h.at_.rel h.at_.fr hv'
   exact ⟨h.at_.defers,u,h1,Out,S3,hv ▸ hO,u,_,_,rfl,h.at_.rel,h.at_.ext,h2⟩)
  (((pkO 0).toList.drop 0).take 1) [] _ S m A a0 w (GY.nil _) (fun o ho t ht=>(Oj (T:=[]) (by kernel_rfl) o ho t ht).1) (ck0 _ _ _) hat trivial
 rw [← pL0] at h0
 exact h0
end
theorem V8 (g0:Nat):∀ (args:List AV) (S:St) (v:AV) (S1:St),GQ args S = some (v,S1)→∀ (X:Nat→Prop) (m:Bd) (A:Nat→Prop) (w:World) (cargs:Array Value),Rel g0 X m A S w→CR X m A S w args cargs→Calls Tryz.prog 99 cargs w (ED g0 X m A S w v S1):=by
 intro args S v S1 h X m A w cargs hr ha
 unfold GQ at h
 split at h <;> try (cases h; done)
 rename_i l fl rows l2 fl2 rrs
 rw [Option.map_eq_some_iff] at h
 obtain ⟨vals,h1,h2⟩:=h
 injection h2 with h2 h3
 subst h2; subst h3
 obtain ⟨rs,css,rfl,hlen,hR,hc,hl,rfl⟩:=V9 h1
 have ha2:CR (fun c=>X c∨rng m c) (fun _=>none) (fun c=>A c∨rng m c) [] w [.rsl l fl rows,.rsl l2 fl2 (rs.map fun r=>[.int .i64 r])] cargs:=by
  refine ⟨ha.1,fun i a u h1 h2=>VR.free (fun c h=>.inl h) (fun c h1 h2 h3=>?_) (ha.2 i a u h1 h2) ?_⟩
  ·rcases h3 with h3 | ⟨b,o,h3⟩
   ·exact h2 h3
   ·exact (hr.dis b c o h3).1 h1
  ·match i with
   | 0=>simp at h1; subst h1; rfl
   | 1=>simp at h1; subst h1; rfl
   | i + 2=>simp at h1
 refine (Ta l fl l2 fl2 rows rs css hlen hR hc hl hr.borrow ha2).mono fun e w' ⟨v0,S0',hO,hp⟩=>?_
 have:=WH hr hp
 rw [c8 hO] at this
 exact this
end Go.Proofs.YthbiabieiopobaaGreatDoor
