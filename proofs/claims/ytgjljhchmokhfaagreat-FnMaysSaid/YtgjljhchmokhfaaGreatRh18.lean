/- Trees made of parts, BY a written pointer. -/
import Derived.Test.YtgjljhchmokhfaaGreatRh16
import Derived.Test.YtgjljhchmokhfaaGreatRh14
set_option linter.unusedVariables false
set_option linter.unusedSimpArgs false
namespace Go.Rf
open Go
instance trU8:Tr U8:=Tr.leaf (fun _ _=>rfl) (fun _ _=>rfl)
theorem HI {ρ τ α:Type} [e:Enc α] [t:Tr α] {L:List En} {m:Option τ} {P:τ→ρ→Prop} {us:List Nat} {cs:List AV} {x:α} {k:St→Option ρ} (n:Nat) (hb:TB L us cs x) (hu:us.all (· < n) = true) (hk:∀ ids,Okh (tr ids cs x::L.drop n) k m P):Okh L k m P:=fun S hS=>by
 obtain ⟨ids,h1,h2⟩:=hb S hS
 have hd:=hS.drop n
 refine hk ids S ⟨fun en hen=>?_,List.pairwise_cons.2 ⟨fun en hen i hi hin=>?_,hd.2⟩⟩
 ·rcases List.mem_cons.1 hen with rfl | hen
  ·exact h1
  ·exact hd.1 en hen
 ·obtain ⟨u,hu',en',hl,hin'⟩:=h2 i hi
  have hun:u < n:=by have:=List.all_eq_true.1 hu u hu'; simpa using this
  obtain ⟨j,hj,hje⟩:=List.mem_iff_getElem.1 hen
  have hp:=List.pairwise_iff_getElem.1 hS.2
  obtain ⟨hul,rfl⟩:=List.getElem?_eq_some_iff.1 hl
  rw [List.getElem_drop] at hje
  have hjl:n + j < L.length:=by simp at hj; omega
  subst hje
  exact hp u (n + j) hul hjl (by omega) i hin' hin
section
variable {α ρ τ:Type} [e:Enc α] [t:Tr α] {L:List En} {m:Option τ} {P:τ→ρ→Prop}
theorem WV {by_:Nat} {i:Int} {z:α} {zc:List AV} {k:AV→St→Option ρ} {mk:List α→Option τ} {G:Program} {tt:TypeId}
  (hm:∀ (S:St) (n:Nat),(n + 1) * (by_ + 1)≤70368744177664→Gg G tt (.int .i64 n) (.int .i64 n) S = some (.bsl S.length 0 n n true,S++[⟨e.sz,List.replicate n zc,false⟩]))
  (hz:∀ S,t.ow S [] zc z) (hk:∀ x,mkO by_ i z = some x→∀ v' ids',Okh (tra ids' v' x::L) (k v') (mk x) P):Okh L (fun S=>pe (Gg G tt (.int .i64 i) (.int .i64 i) S) k) ((mkO by_ i z).bind mk) P:=fun S hS=>by
 intro y hy
 rw [Option.bind_eq_some_iff] at hy
 obtain ⟨zs,hzs,hmm⟩:=hy
 have hzs0:=hzs
 unfold mkO at hzs
 split at hzs <;> try (cases hzs; done)
 rename_i hb
 injection hzs with hzs; subst hzs
 have h1:=hm S i.toNat hb.2
 rw [Int.toNat_of_nonneg hb.1] at h1
 show ∃ r,pe (Gg G tt (.int .i64 i) (.int .i64 i) S) k = some r∧_
 rw [h1]
 have hrows:∀ (S:St) (n:Nat),AZ (t.ow S) (List.replicate n zc) (List.replicate n z) (List.replicate n []):=by
  intro S n
  induction n with
  | zero=>trivial
  | succ n ih=>exact ⟨hz S,ih⟩
 have hfl:(List.replicate i.toNat ([]:List Nat)).flatten = []:=by simp
 refine hk _ hzs0 _ [S.length] _ (hS.new (fun j hj=>List.getElem?_append_left hj) (fun j hj=>by
  rw [List.mem_singleton.1 (show j∈[S.length] from hj)]; exact Nat.le_refl _) ⟨⟨_,rfl,.inr ⟨S.length,true,false,_,_,[],by simp,by simp,fun h=>(by cases h),hrows _ _,by rw [hfl],by simp⟩⟩,fun fl h=>(by cases h),fun b n L fl h=>(by injection h with h1 h2 h3 h4 h5; omega)⟩) y hmm
end
def trx {α:Type} [e:Enc α] [t:Tr α] (ids:List Nat) (v:AV) (xs:List α) (cs:List AV) (x:α):En where
 ids:=ids
 ok S:=trList.ow S ids [v] xs∧∃ ic,t.ow S ic cs x∧∀ j∈ic,j∈ids
 st S S' h hh:=by
  obtain ⟨h1,ic,h2,h3⟩:=hh
  exact ⟨trList.st h h1,ic,t.st (fun j hj=>h j (h3 j hj)) h2,h3⟩
 lt _ h:=trList.lt h.1
section
variable {α ρ τ:Type} [e:Enc α] [t:Tr α] {L:List En} {m:Option τ} {P:τ→ρ→Prop} {ids:List Nat} {v:AV} {xs:List α} {n:Nat}
theorem MI {k:AV→St→Option ρ} (j:Nat) (hL:L[j]? = some (tra ids v xs)) (hk:Okh L (k (.int .i64 xs.length)) m P):Okh L (fun S=>pk (Fa v) S fun r=>k r S) m P:=fun S hS=>by
 have h1:Fa v = some (.int .i64 xs.length):=by
  obtain ⟨v',hv,⟨fl,rfl,rfl,_⟩ | ⟨b,fl,pl,es,is,rs,rfl,_⟩⟩:=(show trList.ow S ids [v] xs from (hS.get hL).1)
  ·injection hv with hv; subst hv; rfl
  ·injection hv with hv; subst hv; rfl
 show Fit (pk (Fa v) S fun r=>k r S) m P
 rw [h1]
 exact hk S hS
end
def slw {α:Type} [e:Enc α] (v:AV) (xs:List α):En where
 ids:=idS v
 ok S:=v = .rsl false true (xs.map (e.cs false))∨(sl false v xs).ok S
 st S S' h:=by
  rintro (h1 | h1)
  ·exact .inl h1
  ·exact .inr ((sl false v xs).st S S' h h1)
 lt S h i hi:=by
  rcases h with rfl | h
  ·cases hi
  ·exact (sl false v xs).lt S h i hi
section
variable {α ρ τ:Type} [e:Enc α] {L:List En} {m:Option τ} {P:τ→ρ→Prop}
end
section
variable {ρ τ:Type} {L:List En} {m:Option τ} {P:τ→ρ→Prop}
theorem Q2 {b o n:Nat} {cs:List AV} {c:AV} {k:St→Option ρ} (i:Nat) (hL:L[i]? = some (bx b cs)) (hc:(cs.drop o).take n = [c]) (hk:Okh L k m P):Okh L (fun S=>DR ((ld1 S (.bp b 0 o n 1)).map (·,S)) c S (k S)) m P:=fun S hS=>by
 have h:ld1 S (.bp b 0 o n 1) = some c:=hS.ld i hL hc
 show Fit (DR ((ld1 S (.bp b 0 o n 1)).map (·,S)) c S (k S)) m P
 unfold DR
 rw [if_pos (by rw [h]; rfl)]
 exact hk S hS
theorem G7 {b o n:Nat} {cs cs':List AV} {k:St→Option ρ} (i:Nat) (hL:L[i]? = some (bx b cs)) (hc:(cs.drop o).take n = cs') (hk:Okh L k m P) (hn:cs'.length = n:=by rfl):Okh L (fun S=>DR ((ldA S (.bp b 0 o n 1) n).map (·,S)) (.agg cs') S (k S)) m P:=fun S hS=>by
 have h:ldA S (.bp b 0 o n 1) n = some (.agg cs'):=hS.lda i hL hc hn
 show Fit (DR ((ldA S (.bp b 0 o n 1) n).map (·,S)) (.agg cs') S (k S)) m P
 unfold DR
 rw [if_pos (by rw [h]; rfl)]
 exact hk S hS
end
section
variable {α:Type} [e:Enc α] [t:Tr α] {τ:Type} {L:List En}
theorem Ns {S:St} (hp:∀ x:α,t.ow S [] (e.cs false x) x):∀ xs:List α,AZ (t.ow S) (xs.map (e.cs false)) xs (xs.map fun _=>[])
 | []=>trivial
 | x::xs=>⟨hp x,Ns hp xs⟩
theorem TG {v:AV} {xs:List α} (j:Nat) (hL:L[j]? = some (sl false v xs)) (hp:∀ (S:St) (x:α),t.ow S [] (e.cs false x) x):Okh L (fun S=>some (v,S)) (some xs) P1a:=fun S hS=>by
 intro y hy
 injection hy with hy
 subst hy
 refine ⟨_,rfl,?_⟩
 rcases hS.get hL with ⟨rfl,rfl⟩ | ⟨b,fl,pl,rfl,h2,h3⟩
 ·exact ⟨[],⟨_,rfl,.inl ⟨true,rfl,rfl,rfl⟩⟩,fun fl h=>by injection h with _ h _; exact h.symm,fun b n L fl h=>by cases h⟩
 ·have hq:Qa (AV.bsl b 0 xs.length xs.length fl):=⟨fun fl h=>(by cases h),fun b n L fl h=>by
   injection h with _ _ h1 h2 _
   omega⟩
  exact ⟨[b],⟨_,rfl,.inr ⟨b,fl,pl,xs.map (e.cs false),xs.map fun _=>[],[],rfl,by simpa using h2,by simpa using h3,Ns (hp S) xs,by simp,by simp⟩⟩,hq⟩
end
end Go.Rf
