/- FnExactPutMsg answers true at every input and leaves its arguments as they were. Conditions: none beyond the row's. -/
import Derived.Test.YtifocmbeahpopaaLaw
import Derived.Test.YtifocmbeahpopaaRf22
import Derived.Test.YtifocmbeahpopaaRh6
import Derived.Test.YtifocmbeahpopaaRows
import Derived.Test.YtifocmbeahpopaaChecked
namespace Go.Proofs.Ytifocmbeahpopaa
open Go Go.Rf Go.ChangeShapes Go.WideShapes Go.ChangeAt Go.RowKit
set_option linter.unusedVariables false
theorem Try.own:ownKnob Try.prog.godebug = none:=by kernel_rfl
theorem Try.laidOut:laidOutB Try.prog = true:=by kernel_rfl
theorem namesOk:NamesOk Try.prog:=by
 have h : (Try.prog.funcs.all fun fn => !(fn.name == "runtime.NumGoroutine")) = true := by kernel_rfl
 intro g fn hg
 have:=Array.all_eq_true_iff_forall_mem.1 h fn (Array.mem_of_getElem? hg)
 simpa using this
theorem extOk (N g0:Nat) (G:World→Prop):ExtOk (cfg N) g0 G:=fun f e h=>by cases h
theorem uI:Try.prog.underlying 2 = some (.int .i64):=by kernel_rfl
theorem uLI:Try.prog.underlying 24 = some (.slice 2):=by kernel_rfl
set_option maxRecDepth 100000 in
theorem wtInts {n:Nat} {avs:List AV} (h:WT Try.prog (n + 2) 24 avs):∃ xs:List Int,avs = [.rsl false false (xs.map (Enc.cs false))]∧xs.length≤maxLen:=by
 obtain ⟨es,rfl,hl,hes⟩:=WT_slice uLI h
 obtain ⟨xs,rfl⟩:=list_enc (enc:=fun x:Int=>Enc.cs false x) es fun x hx=>by
  obtain ⟨z,rfl,_⟩:=WT_int uI (hes x hx)
  exact ⟨z,rfl⟩
 exact ⟨xs,rfl,by simpa using hl⟩
theorem uLC:Try.prog.underlying 23 = some (.slice 71):=by kernel_rfl
theorem uLM:Try.prog.underlying 22 = some (.slice 26):=by kernel_rfl
theorem sC:structT Try.prog 71 = some [2,2,2]:=by kernel_rfl
theorem sM:structT Try.prog 26 = some [2,2,2,2,2,23,24]:=by kernel_rfl
theorem list_encp {α:Type} {enc:α→List AV} {p:α→Prop}:∀ (es:List (List AV)),(∀ x∈es,∃ a,x = enc a∧p a)→∃ xs:List α,es = xs.map enc∧∀ a∈xs,p a
 | [],_=>⟨[],rfl,by simp⟩
 | e::es,h=>by
  obtain ⟨a,ha,hp⟩:=h e (by simp)
  obtain ⟨xs,hxs,hq⟩:=list_encp es fun x hx=>h x (by simp [hx])
  exact ⟨a::xs,by simp [ha,hxs],fun b hb=>by
   rcases List.mem_cons.1 hb with rfl | hb
   ·exact hp
   ·exact hq b hb⟩
set_option maxRecDepth 100000 in
theorem wtCert {n:Nat} {avs:List AV} (h:WT Try.prog (n + 2) 71 avs):∃ x:TCert,avs = Enc.cs false x:=by
 obtain ⟨x1,r1,rfl,h1,x2,r2,rfl,h2,x3,r3,rfl,h3,rfl⟩:=WT_struct sC h
 obtain ⟨a,rfl,_⟩:=WT_int uI h1
 obtain ⟨b,rfl,_⟩:=WT_int uI h2
 obtain ⟨c,rfl,_⟩:=WT_int uI h3
 exact ⟨⟨a,b,c⟩,rfl⟩
set_option maxRecDepth 100000 in
theorem wtCerts {n:Nat} {avs:List AV} (h:WT Try.prog (n + 3) 23 avs):∃ xs:List TCert,avs = [.rsl false false (xs.map (Enc.cs false))]∧xs.length≤maxLen:=by
 obtain ⟨es,rfl,hl,hes⟩:=WT_slice uLC h
 obtain ⟨xs,rfl⟩:=list_enc (enc:=fun x:TCert=>Enc.cs false x) es fun x hx=>wtCert (hes x hx)
 exact ⟨xs,rfl,by simpa using hl⟩
set_option maxRecDepth 100000 in
theorem wtMsg {n:Nat} {avs:List AV} (h:WT Try.prog (n + 4) 26 avs):∃ x:TMsg,avs = Enc.cs false x∧okMsg x:=by
 obtain ⟨x1,r1,rfl,h1,x2,r2,rfl,h2,x3,r3,rfl,h3,x4,r4,rfl,h4,x5,r5,rfl,h5,x6,r6,rfl,h6,x7,r7,rfl,h7,rfl⟩:=WT_struct sM h
 obtain ⟨a1,rfl,_⟩:=WT_int uI h1
 obtain ⟨a2,rfl,_⟩:=WT_int uI h2
 obtain ⟨a3,rfl,_⟩:=WT_int uI h3
 obtain ⟨a4,rfl,_⟩:=WT_int uI h4
 obtain ⟨a5,rfl,_⟩:=WT_int uI h5
 obtain ⟨a6,rfl,l6⟩:=wtCerts h6
 obtain ⟨a7,rfl,l7⟩:=wtInts h7
 exact ⟨⟨a1,a2,a3,a4,a5,a6,a7⟩,rfl,l6,l7⟩
set_option maxRecDepth 100000 in
theorem wtMsgs {n:Nat} {avs:List AV} (h:WT Try.prog (n + 5) 22 avs):∃ xs:List TMsg,avs = [.rsl false false (xs.map (Enc.cs false))]∧xs.length≤maxLen∧∀ x∈xs,okMsg x:=by
 obtain ⟨es,rfl,hl,hes⟩:=WT_slice uLM h
 obtain ⟨xs,rfl,hp⟩:=list_encp (enc:=fun x:TMsg=>Enc.cs false x) es fun x hx=>wtMsg (hes x hx)
 exact ⟨xs,rfl,by simpa using hl,hp⟩
theorem WP_struct {P:Program} {n:Nat} {t:TypeId} {ts:List TypeId} {a:AV} (hs:structT P t = some ts) (h:WP P n t a):∃ cs,a = .agg cs∧WT P n t cs:=by
 unfold structT at hs
 unfold WP at h
 split at hs <;> try (cases hs; done)
 rename_i fs hu
 rw [hu] at h
 exact h
set_option maxRecDepth 100000 in
theorem wpInt {n:Nat} {a:AV} (h:WP Try.prog (n + 1) 2 a):∃ z,a = .int .i64 z:=by
 unfold WP at h; rw [uI] at h
 obtain ⟨z,hz,_⟩:=WT_int uI h
 injection hz with hz
 exact ⟨z,hz⟩
set_option maxRecDepth 100000 in
theorem wpmsgs {n:Nat} {a:AV} (h:WP Try.prog (n + 5) 22 a):∃ xs:List TMsg,a = .rsl false false (xs.map (Enc.cs false))∧xs.length≤maxLen∧∀ x∈xs,okMsg x:=by
 unfold WP at h; rw [uLM] at h
 obtain ⟨xs,hx,hp⟩:=wtMsgs h
 injection hx with hx
 exact ⟨xs,hx,hp⟩
set_option maxRecDepth 100000 in
theorem lifted (os:Os) (started:os.Started) (H:Type) (enc:TypeId×Value→H) :
  ReturnsInHanded {} Try.checked os 3 .any (Rows.fnExactPutMsgSpec.pre6 enc Try.prog Try.f3 Rows.fnExactPutMsgRow.domain false) (Rows.fnExactPutMsgSpec.post enc Try.prog Try.f3 false true false false):=by
 refine returnsInHanded_of_change (C:=Try.checked) Try.own started (by kernel_rfl) Try.func3
  (ChangeSpec.witness6 (enc:=enc) (C:=Try.checked) false ⟨#[],#[.int .i64 0,.slice none 0 0,.agg #[.int .i64 0,.int .i64 0,.int .i64 0,.int .i64 0,.int .i64 0,.slice none 0 0,.slice none 0 0]],[]⟩ 8 (by kernel_rfl) (by kernel_rfl) (by kernel_rfl) (by kernel_rfl)) ?_
 intro W base args ds gs before hval hW _ _
 refine law_contract (C:=cfg NN) (n:=8) (bt:=4) (by kernel_rfl) namesOk Try.laidOut (fun t ht=>?_) (fun t ht=>?_) (by kernel_rfl) (by kernel_rfl) rfl (fun gs' hg hl=>?_) hval hW (extOk _ _ _) (fun as_ has=>?_)
 ·have h:(Try.f3.params.toList.all fun t=>Try.prog.readableRec t && decide (t < Try.prog.types.size)) = true:=by kernel_rfl
  have:=List.all_eq_true.1 h t ht
  rw [Bool.and_eq_true,decide_eq_true_eq] at this
  exact this
 ·have h:(Try.f3.params.toList.all fun t=>okT Try.prog 8 t) = true:=by kernel_rfl
  exact List.all_eq_true.1 h t ht
 ·subst hg
  match ds,hl with
  | [d0,d1,d2],_=>rfl
 ·have hp:Try.f3.params.toList = [2,22,26]:=rfl
  rw [hp] at has
  obtain ⟨a0,r0,rfl,h0,a1,r1,rfl,h1,a2,r2,rfl,h2,rfl⟩:=has
  obtain ⟨x0,rfl⟩:=wpInt (n:=7) h0
  obtain ⟨x1,rfl,g1⟩:=wpmsgs (n:=3) h1
  obtain ⟨cs2,rfl,h2'⟩:=WP_struct sM h2
  obtain ⟨x2,rfl,g2⟩:=wtMsg (n:=4) h2'
  obtain ⟨⟨v,S1⟩,hS,hv⟩:=w3 (d:=400) (by decide) x0 false x1 false x2 true (pm_law x0 x1 x2 g1 g2)
  have hv:=fzr_bool hv
  subst hv
  unfold R at hS
  exact ⟨400,S1,hS⟩
theorem fnExactPutMsg_holds:Rows.FnExactPutMsgSaid:=
 OpenClaim.holds_of_wide 3 Try.f3 rfl rfl rfl rfl rfl rfl rfl ⟨rfl,rfl,rfl,rfl,rfl⟩ rfl rfl rfl rfl rfl (by kernel_rfl) Try.func3 (by kernel_rfl)
  (of_decide_eq_true (by kernel_rfl)) (by unfold Func.isWrapper; first | (rw [if_pos (by decide +kernel)]; kernel_rfl) | (rw [if_neg (by decide +kernel)]; exact ⟨rfl,rfl⟩))
  (fun os started H enc _=>lifted os started H enc)
end Go.Proofs.Ytifocmbeahpopaa
