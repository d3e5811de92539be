/- Trees made of parts, behind a written pointer. -/
import Derived.Test.YtkbdneigeghbaaaDoorRh16
set_option linter.unusedVariables false
set_option linter.unusedSimpArgs false
namespace Go.Rf
open Go
instance trU8:Tr U8:=Tr.leaf (fun _ _=>rfl) (fun _ _=>rfl)
theorem q_tbd {ρ τ α:Type} [e:Enc α] [t:Tr α] {L:List En} {m:Option τ} {P:τ→ρ→Prop} {us:List Nat} {cs:List AV} {x:α} {k:St→Option ρ} (n:Nat) (hb:TB L us cs x) (hu:us.all (· < n) = true) (hk:∀ ids,Okh (tr ids cs x::L.drop n) k m P):Okh L k m P:=fun S hS=>by
 obtain ⟨ids,h1,h2⟩:=hb S hS
 have hd:=hS.drop n
 refine hk ids S ⟨fun en hen=>?_,List.pairwise_cons.2 ⟨fun en hen i hi hin=>?_,hd.2⟩⟩
 ·rcases List.mem_cons.1 hen with rfl | hen
  ·exact h1
  ·exact hd.1 en hen
 ·obtain ⟨u,hu',en',hl,hin'⟩:=h2 i hi
  have hun:u < n:=by have:=List.all_eq_true.1 hu u hu'; simpa using this
  obtain ⟨j,hj,hje⟩:=List.mem_iff_getElem.1 hen
  have hp:=List.pairwise_iff_getElem.1 hS.2
  obtain ⟨hul,rfl⟩:=List.getElem?_eq_some_iff.1 hl
  rw [List.getElem_drop] at hje
  have hjl:n + j < L.length:=by simp at hj; omega
  subst hje
  exact hp u (n + j) hul hjl (by omega) i hin' hin
section
variable {α ρ τ:Type} [e:Enc α] [t:Tr α] {L:List En} {m:Option τ} {P:τ→ρ→Prop}
theorem q_mka {by_:Nat} {i:Int} {z:α} {zc:List AV} {k:AV→St→Option ρ} {mk:List α→Option τ} {G:Program} {tt:TypeId}
  (hm:∀ (S:St) (n:Nat),(n + 1) * (by_ + 1)≤70368744177664→amake G tt (.int .i64 n) (.int .i64 n) S = some (.bsl S.length 0 n n true,S++[⟨e.sz,List.replicate n zc,false⟩]))
  (hz:∀ S,t.ow S [] zc z) (hk:∀ x,mkO by_ i z = some x→∀ v' ids',Okh (tra ids' v' x::L) (k v') (mk x) P):Okh L (fun S=>pe (amake G tt (.int .i64 i) (.int .i64 i) S) k) ((mkO by_ i z).bind mk) P:=fun S hS=>by
 intro y hy
 rw [Option.bind_eq_some_iff] at hy
 obtain ⟨zs,hzs,hmm⟩:=hy
 have hzs0:=hzs
 unfold mkO at hzs
 split at hzs <;> try (cases hzs; done)
 rename_i hb
 injection hzs with hzs; subst hzs
 have h1:=hm S i.toNat hb.2
 rw [Int.toNat_of_nonneg hb.1] at h1
 show ∃ r,pe (amake G tt (.int .i64 i) (.int .i64 i) S) k = some r∧_
 rw [h1]
 have hrows:∀ (S:St) (n:Nat),rowsT (t.ow S) (List.replicate n zc) (List.replicate n z) (List.replicate n []):=by
  intro S n
  induction n with
  | zero=>trivial
  | succ n ih=>exact ⟨hz S,ih⟩
 have hfl:(List.replicate i.toNat ([]:List Nat)).flatten = []:=by simp
 refine hk _ hzs0 _ [S.length] _ (hS.new (fun j hj=>List.getElem?_append_left hj) (fun j hj=>by
  rw [List.mem_singleton.1 (show j∈[S.length] from hj)]; exact Nat.le_refl _) ⟨⟨_,rfl,.inr ⟨S.length,true,false,_,_,[],by simp,by simp,fun h=>(by cases h),hrows _ _,by rw [hfl],by simp⟩⟩,fun fl h=>(by cases h),fun b n L fl h=>(by injection h with h1 h2 h3 h4 h5; omega)⟩) y hmm
end
def trx {α:Type} [e:Enc α] [t:Tr α] (ids:List Nat) (v:AV) (xs:List α) (cs:List AV) (x:α):En where
 ids:=ids
 ok S:=trList.ow S ids [v] xs∧∃ ic,t.ow S ic cs x∧∀ j∈ic,j∈ids
 st S S' h hh:=by
  obtain ⟨h1,ic,h2,h3⟩:=hh
  exact ⟨trList.st h h1,ic,t.st (fun j hj=>h j (h3 j hj)) h2,h3⟩
 lt _ h:=trList.lt h.1
section
variable {α ρ τ:Type} [e:Enc α] [t:Tr α] {L:List En} {m:Option τ} {P:τ→ρ→Prop} {ids:List Nat} {v:AV} {xs:List α} {n:Nat}
theorem q_lena {k:AV→St→Option ρ} (j:Nat) (hL:L[j]? = some (tra ids v xs)) (hk:Okh L (k (.int .i64 xs.length)) m P):Okh L (fun S=>pk (alen v) S fun r=>k r S) m P:=fun S hS=>by
 have h1:alen v = some (.int .i64 xs.length):=by
  obtain ⟨v',hv,⟨fl,rfl,rfl,_⟩ | ⟨b,fl,pl,es,is,rs,rfl,_⟩⟩:=(show trList.ow S ids [v] xs from (hS.get hL).1)
  ·injection hv with hv; subst hv; rfl
  ·injection hv with hv; subst hv; rfl
 show Fit (pk (alen v) S fun r=>k r S) m P
 rw [h1]
 exact hk S hS
theorem q_ixa {kk:IntKind} {i:Int} {k:AV→St→Option ρ} {mk:α→Option τ} (j:Nat) (hL:L[j]? = some (tra ids v xs)) (hn:e.sz = n) (hk:∀ x,getI xs i = some x→Okh L (k (elP n v i.toNat)) (mk x) P) :
  Okh L (fun S=>pk (pindex n v (.int kk i) S) S fun r=>k r S) ((getI xs i).bind mk) P:=fun S hS=>by
 intro y hy
 rw [Option.bind_eq_some_iff] at hy
 obtain ⟨x,hx,hm⟩:=hy
 obtain ⟨h0,h1,h2⟩:=getI_lt hx
 obtain ⟨b,fl,pl,es,is,rs,rfl,q1,_⟩:=tr_box (hS.get hL).1 hx
 have hp:pindex n (.bsl b 0 xs.length (xs.length + rs.length) fl) (.int kk i) S = some (elP n (.bsl b 0 xs.length (xs.length + rs.length) fl) i.toNat):=by
  simp only [pindex,elP]
  rw [if_pos ⟨h0,by omega⟩,q1]
  simp [hn]
 show ∃ r,pk (pindex n (.bsl b 0 xs.length (xs.length + rs.length) fl) (.int kk i) S) S (fun r=>k r S) = some r∧_
 rw [hp]
 exact hk x hx S hS y hm
theorem q_lde {i:Int} {x:α} {k:AV→St→Option ρ} (hn:e.sz = n) (hx:getI xs i = some x) (hk:∀ cs,(∃ S ic,t.ow S ic cs x)→Okh (trx ids v xs cs x::L) (k (.agg cs)) m P) :
  Okh (tra ids v xs::L) (fun S=>pk (ldA S (elP n v i.toNat) n) S fun r=>k r S) m P:=fun S hS=>by
 obtain ⟨h0,h1,h2⟩:=getI_lt hx
 have hw:trList.ow S ids [v] xs:=(show trList.ow S ids [v] xs∧_ from hS.get (k:=0) rfl).1
 obtain ⟨b,fl,pl,es,is,rs,rfl,q1,q2,q3,q4,q5,q6⟩:=tr_box hw hx
 obtain ⟨ec,ic,g1,g2,g3⟩:=q3.get i.toNat h2
 have qg:(es++rs)[i.toNat]? = some ec:=(get_app (by omega)).trans g1
 have hl:ec.length = n:=by rw [t.len g3,hn]
 have key:ldA S (elP n (.bsl b 0 xs.length (xs.length + rs.length) fl) i.toNat) n = some (.agg ec):=by
  simp only [elP,ldA,pcells,q1,List.length_append,q6,if_true,Nat.zero_add,qg,List.drop_zero]
  rw [← hl,List.take_of_length_le (Nat.le_refl _)]
  simp
 have hp:=List.pairwise_cons.1 hS.2
 show Fit (pk (ldA S (elP n (.bsl b 0 xs.length (xs.length + rs.length) fl) i.toNat) n) S fun r=>k r S) m P
 rw [key]
 refine hk ec ⟨S,ic,g3⟩ S ⟨fun en hen=>?_,List.pairwise_cons.2 ⟨fun en hen j hj=>hp.1 en hen j hj,hp.2⟩⟩
 rcases List.mem_cons.1 hen with rfl | hen
 ·refine ⟨hw,ic,g3,fun j hj=>?_⟩
  rw [q4]
  exact List.mem_cons_of_mem _ (List.mem_flatten.2 ⟨ic,List.mem_of_getElem? g2,hj⟩)
 ·exact hS.1 en (by simp [hen])
theorem cv_trx {n:Nat} {q:Bool} {cs:List AV} {x:α} (i:Nat) (hL:L[i]? = some (trx ids v xs cs x)) (hn:e.dp + 2≤n:=by decide):CV n L q v (fun l=>.rsl l false (xs.map (e.cs l))):=fun S hS=>
 cv_tr (L:=[tr ids [v] xs]) 0 rfl hn S ⟨fun en hen=>by rw [List.mem_singleton.1 hen]; exact (hS.get hL).1,List.pairwise_singleton _ _⟩
theorem cvs_trx {n:Nat} {q:Bool} {cs:List AV} {x:α} (i:Nat) (hL:L[i]? = some (trx ids v xs cs x)) (hn:e.dp + 1≤n:=by decide):CVs n L q cs (fun l=>e.cs l x):=fun S hS=>by
 obtain ⟨_,ic,h,_⟩:=hS.get hL
 exact ⟨fun brw k j l hk hj=>t.fz h brw k j l (by omega) (by omega),fun _ k j hk hj=>t.ld h k j (by omega) (by omega)⟩
end
def slw {α:Type} [e:Enc α] (v:AV) (xs:List α):En where
 ids:=idS v
 ok S:=v = .rsl false true (xs.map (e.cs false))∨(sl false v xs).ok S
 st S S' h:=by
  rintro (h1 | h1)
  ·exact .inl h1
  ·exact .inr ((sl false v xs).st S S' h h1)
 lt S h i hi:=by
  rcases h with rfl | h
  ·cases hi
  ·exact (sl false v xs).lt S h i hi
section
variable {α ρ τ:Type} [e:Enc α] {L:List En} {m:Option τ} {P:τ→ρ→Prop}
theorem q_litw {xs:List α} {k:St→Option ρ} (hk:Okh (slw (.rsl false true (xs.map (e.cs false))) xs::L) k m P):Okh L k m P:=fun S hS=>hk S (hS.new (fun _ _=>rfl) (fun i hi=>by cases hi) (.inl rfl))
theorem q_apsw {v x:AV} {xs ys:List α} {n by_:Nat} {k:AV→St→Option ρ} {mk:List α→Option τ} (i:Nat) (hL:L[i]? = some (slw v xs)) (hn:e.sz = n) (hx:∀ S,HP S L→elemsOf S x = some (ys.map (e.cs false)))
  (hk:∀ v' zs,appO by_ xs ys = some zs→Okh (L.set i (slw v' zs)) (k v') (mk zs) P):Okh L (fun S=>pe (appA n by_ v x S) k) ((appO by_ xs ys).bind mk) P:=fun S hS=>by
 intro u hu
 rw [Option.bind_eq_some_iff] at hu
 obtain ⟨z,hz,hm⟩:=hu
 have hil:=(List.getElem?_eq_some_iff.1 hL).1
 show ∃ r,pe (appA n by_ v x S) k = some r∧_
 rcases hS.get hL with rfl | h1
 ·have hz0:=hz
  unfold appO at hz
  split at hz <;> try (cases hz; done)
  rename_i hb
  injection hz with hz
  subst hz
  subst hn
  have all:∀ zs:List α,(zs.map (e.cs false)).all (·.length == e.sz) = true:=fun zs=>by
   simp only [List.all_map,List.all_eq_true]
   intro a _
   simp [e.len]
  unfold appA
  rw [hx S hS]
  cases ys with
  | nil=>
   rw [List.append_nil] at hz0 hm
   refine hk _ _ hz0 S ?_ u hm
   exact hS.upd hL (fun _ _ _=>rfl) (fun i hi=>.inl hi) (.inl rfl)
  | cons y ys=>
   have h1:(xs.map (e.cs false)).length + ((y::ys).map (e.cs false)).length = (xs++y::ys).length:=by simp
   have key:aapp e.sz by_ (.rsl false true (xs.map (e.cs false))) ((y::ys).map (e.cs false)) S = some (.bsl S.length 0 (xs++y::ys).length (xs++y::ys).length false,S++[⟨e.sz,(xs++y::ys).map (e.cs false),((xs++y::ys).map (e.cs false)).all (·.all plain)⟩]):=by
    have hb':((xs.map (e.cs false)).length + ((y::ys).map (e.cs false)).length) * (by_ + 1)≤17592186044416:=by rw [h1,List.length_append]; exact hb
    have a1:=all xs
    have a2:=all (y::ys)
    rw [← h1,List.map_append]
    simp only [List.map_cons] at a2 hb' ⊢
    unfold aapp
    simp only [a2,Bool.not_true,Bool.false_eq_true,if_false]
    rw [if_pos ⟨trivial,a1,hb'⟩]
   show ∃ r,pe (aapp e.sz by_ (.rsl false true (xs.map (e.cs false))) ((y::ys).map (e.cs false)) S) k = some r∧_
   rw [key]
   refine hk _ _ hz0 (S++[⟨e.sz,(xs++y::ys).map (e.cs false),_⟩]) (hS.upd hL (fun i _ hi=>List.getElem?_append_left hi) (fun i hi=>?_) ?_) u hm
   ·have hi:i∈[S.length]:=hi
    simp at hi
    exact .inr (by omega)
   ·exact .inr (.inr ⟨S.length,false,_,rfl,by simp,fun h=>h⟩)
 ·have h2:HP S (L.set i (sl false v xs)):=hS.upd hL (fun _ _ _=>rfl) (fun i hi=>.inl hi) h1
  obtain ⟨v',S',h3,h4⟩:=app_own i (by rw [List.getElem?_set_self hil]) hn (hx S hS) hz h2
  rw [h3]
  rw [List.set_set] at h4
  have h5:=h4.upd (k:=i) (e:=sl false v' z) (e':=slw v' z) (S':=S') (by rw [List.getElem?_set_self hil]) (fun _ _ _=>rfl) (fun i hi=>.inl hi) (.inr (h4.get (k:=i) (by rw [List.getElem?_set_self hil])))
  rw [List.set_set] at h5
  exact hk v' z hz S' h5 u hm
theorem cv_ow {n:Nat} {q:Bool} {v:AV} {xs:List α} (i:Nat) (hL:L[i]? = some (slw v xs)) (hn:e.dp + 2≤n:=by decide):CV n L q v (fun l=>.rsl l false (xs.map (e.cs l))):=fun S hS=>by
 rcases hS.get hL with rfl | h
 ·exact cv_r (L:=L) (l0:=false) (fl:=true) (fun _=>rfl) hn S hS
 ·exact cv_o (L:=[sl false v xs]) 0 rfl (fun _=>rfl) hn S ⟨fun en hen=>by rw [List.mem_singleton.1 hen]; exact h,List.pairwise_singleton _ _⟩
end
section
variable {ρ τ:Type} {L:List En} {m:Option τ} {P:τ→ρ→Prop}
theorem q_same {b o n:Nat} {cs:List AV} {c:AV} {k:St→Option ρ} (i:Nat) (hL:L[i]? = some (bx b cs)) (hc:(cs.drop o).take n = [c]) (hk:Okh L k m P):Okh L (fun S=>sameA ((ld1 S (.bp b 0 o n 1)).map (·,S)) c S (k S)) m P:=fun S hS=>by
 have h:ld1 S (.bp b 0 o n 1) = some c:=hS.ld i hL hc
 show Fit (sameA ((ld1 S (.bp b 0 o n 1)).map (·,S)) c S (k S)) m P
 unfold sameA
 rw [if_pos (by rw [h]; rfl)]
 exact hk S hS
end
end Go.Rf
