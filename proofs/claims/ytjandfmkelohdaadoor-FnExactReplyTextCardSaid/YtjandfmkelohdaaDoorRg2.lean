/- Rules: what the evaluator does, and what a plain function does. -/
import Derived.Test.YtjandfmkelohdaaDoorRg1
set_option linter.unusedVariables false
set_option linter.unusedSimpArgs false
namespace Go.Rf
open Go
def Fit {ρ τ : Type} (x : Option ρ) (m : Option τ) (P : τ → ρ → Prop) : Prop := ∀ t, m = some t → ∃ r, x = some r ∧ P t r
def Okh {ρ τ : Type} (L : List En) (k : St → Option ρ) (m : Option τ) (P : τ → ρ → Prop) : Prop := ∀ S, HP S L → Fit (k S) m P
def P0 {τ : Type} (E : τ → AV) (t : τ) (r : AV × St) : Prop := fzr r.2 r.1 = E t
abbrev RunT := FuncId → List AV → St → Option (AV × St)
abbrev OA := Option (AV × St)
abbrev gd (l : List AV) (i : Nat) : AV := l.getD i .non
def getI {α : Type} (xs : List α) (i : Int) : Option α := if 0 ≤ i then xs[i.toNat]? else none
def subI {α : Type} (xs : List α) (i j : Int) : Option (List α) := if 0 ≤ i ∧ i ≤ j ∧ j ≤ xs.length then some ((xs.drop i.toNat).take (j - i).toNat) else none
def appO {α : Type} (by_ : Nat) (xs ys : List α) : Option (List α) := if (xs.length + ys.length) * (by_ + 1) ≤ 17592186044416 then some (xs ++ ys) else none
def catO (a b : Str) : Option Str := if a.length + b.length ≤ 4611686018427387904 then some (a ++ b) else none
def setI {α : Type} (xs : List α) (i : Int) (x : α) : Option (List α) := if 0 ≤ i ∧ i < xs.length then some (xs.set i.toNat x) else none
section
variable {ρ τ : Type} {L : List En} {m m1 m2 : Option τ} {P : τ → ρ → Prop}
theorem q_in {x y : St → Option ρ} (h : ∀ S, x S = y S) (hk : Okh [] (fun S => y S) m P) : Fit (x []) m P := by rw [h]; exact hk [] HP.nil
theorem fr {α β : Type} {a : α → β} (S : α) : a S = a S := rfl
theorem q_p {x : St → Option AV} {v : AV} {k : AV → St → Option ρ} (h : ∀ S, x S = some v) (hk : Okh L (k v) m P) : Okh L (fun S => pk (x S) S fun r => k r S) m P := fun S hS => by
 show Fit (pk (x S) S fun r => k r S) m P
 rw [h S]; exact hk S hS
theorem q_ph {x : St → Option AV} {v : AV} {k : AV → St → Option ρ} (h : ∀ S, HP S L → x S = some v) (hk : Okh L (k v) m P) : Okh L (fun S => pk (x S) S fun r => k r S) m P := fun S hS => by
 show Fit (pk (x S) S fun r => k r S) m P
 rw [h S hS]; exact hk S hS
theorem q_q {x : St → Option (AV × St)} {v : AV} {k : AV → St → Option ρ} (h : ∀ S, x S = some (v, S)) (hk : Okh L (k v) m P) : Okh L (fun S => pq (x S) fun r => k r S) m P := fun S hS => by
 show Fit (pq (x S) fun r => k r S) m P
 rw [h S]; exact hk S hS
theorem q_if {b : Bool} {x y : St → Option ρ} (h1 : b = true → Okh L x m1 P) (h2 : b = false → Okh L y m2 P) : Okh L (fun S => ifA (.bool b) (x S) (y S)) (bif b then m1 else m2) P := fun S hS => by
 cases b
 ·exact h2 rfl S hS
 ·exact h1 rfl S hS
theorem q_gT {b : Bool} {x y : St → Option ρ} (h1 : b = true → Okh L x m1 P) (h2 : b = false → Okh L y m2 P) : Okh L (fun S => guardA (.bool b) true (x S) (y S)) (bif b then m1 else m2) P := fun S hS => by
 cases b
 ·exact h2 rfl S hS
 ·exact h1 rfl S hS
theorem q_ift {b : Bool} {x y : St → Option ρ} {t1 t2 : τ} (h1 : b = true → Okh L x (some t1) P) (h2 : b = false → Okh L y (some t2) P) : Okh L (fun S => ifA (.bool b) (x S) (y S)) (some (bif b then t1 else t2)) P := fun S hS => by
 cases b
 ·exact h2 rfl S hS
 ·exact h1 rfl S hS
theorem q_gTt {b : Bool} {x y : St → Option ρ} {t1 t2 : τ} (h1 : b = true → Okh L x (some t1) P) (h2 : b = false → Okh L y (some t2) P) : Okh L (fun S => guardA (.bool b) true (x S) (y S)) (some (bif b then t1 else t2)) P := fun S hS => by
 cases b
 ·exact h2 rfl S hS
 ·exact h1 rfl S hS
end
section
variable {ρ τ : Type} {L : List En} {m : Option τ} {P : τ → ρ → Prop}
theorem HP.box {S : St} (h : HP S L) (cs : List AV) : HP (S ++ [⟨cs.length, [cs], cs.all plain⟩]) (bx S.length cs :: L) :=
 h.new (fun i hi => List.getElem?_append_left hi) (fun i hi => by simp [bx] at hi; omega) ⟨cs.all plain, by simp, id⟩
theorem q_new {cs : List AV} {n : Nat} {k : AV → St → Option ρ} (hn : cs.length = n) (hk : ∀ b, Okh (bx b cs :: L) (k (.bp b 0 0 n 1)) m P) : Okh L (fun S => pe (some (newBox S cs)) k) m P := fun S hS => by
 subst hn
 exact hk S.length _ (hS.box cs)
theorem q_box {a : AV} {cs : List AV} {n : Nat} {k : AV → St → Option ρ} (hc : cellsA a = cs) (hn : cs.length = n) (h0 : n ≠ 0) (hk : ∀ b, Okh (bx b cs :: L) (k (.bp b 0 0 n 1)) m P) : Okh L (fun S => pe (boxA a S) k) m P := fun S hS => by
 subst hn; subst hc
 show Fit (pe (boxA a S) k) m P
 unfold boxA
 rw [if_neg h0]
 exact hk S.length _ (hS.box _)
theorem HP.cells {S : St} (h : HP S L) {i b : Nat} {cs : List AV} (hL : L[i]? = some (bx b cs)) (o n : Nat) : pcells S (.bp b 0 o n 1) = some ((cs.drop o).take n) := by
 obtain ⟨pl, h1, _⟩ := h.get hL
 simp [pcells, h1]
theorem q_ld {b o n : Nat} {cs : List AV} {c : AV} {k : AV → St → Option ρ} (i : Nat) (hL : L[i]? = some (bx b cs)) (hc : (cs.drop o).take n = [c]) (hk : Okh L (k c) m P) : Okh L (fun S => pk (ld1 S (.bp b 0 o n 1)) S fun r => k r S) m P :=
 q_ph (x := fun S => ld1 S (.bp b 0 o n 1)) (fun S hS => by simp [ld1, hS.cells hL, hc]) hk
theorem q_lda {b o n : Nat} {cs cs' : List AV} {k : AV → St → Option ρ} (i : Nat) (hL : L[i]? = some (bx b cs)) (hc : (cs.drop o).take n = cs') (hn : cs'.length = n) (hk : Okh L (k (.agg cs')) m P) : Okh L (fun S => pk (ldA S (.bp b 0 o n 1) n) S fun r => k r S) m P :=
 q_ph (x := fun S => ldA S (.bp b 0 o n 1) n) (fun S hS => by simp [ldA, hS.cells hL, hc, hn]) hk
theorem q_st {b o n : Nat} {x : AV} {cs cx : List AV} {k : AV → St → Option ρ} (i : Nat) (hL : L[i]? = some (bx b cs)) (hx : cellsA x = cx) (hn : cx.length = n) (h0 : n ≠ 0) (hl : (putCells cs o cx).length = cs.length)
  (hk : Okh (L.set i (bx b (putCells cs o cx))) (k und) m P) : Okh L (fun S => pe (storeA n (.bp b 0 o n 1) x S) k) m P := fun S hS => by
 obtain ⟨pl, h1, h2⟩ := hS.get hL
 have hst : storeA n (.bp b 0 o n 1) x S = some (und, S.set b ⟨cs.length, [putCells cs o cx], pl && cx.all plain⟩) := by
  unfold storeA
  rw [hx, if_pos ⟨hn, h0⟩]
  simp [stA, h1, hn]
 show Fit (pe (storeA n (.bp b 0 o n 1) x S) k) m P
 rw [hst]
 have hb : b < S.length := (List.getElem?_eq_some_iff.1 h1).1
 refine hk _ (hS.upd hL (fun j hj _ => List.getElem?_set_ne (by rintro rfl; exact hj (by simp [bx]))) (fun j hj => .inl hj) ⟨pl && cx.all plain, by rw [List.getElem?_set_self hb, hl], fun hp => ?_⟩)
 simp only [Bool.and_eq_true] at hp
 rw [List.all_eq_true]
 intro a ha
 simp only [putCells, List.mem_append] at ha
 rcases ha with h | h | h
 ·exact List.all_eq_true.1 (h2 hp.1) a (List.mem_of_mem_take h)
 ·exact List.all_eq_true.1 hp.2 a h
 ·exact List.all_eq_true.1 (h2 hp.1) a (List.mem_of_mem_drop h)
theorem q_c0 {T : Type} {run : FuncId → List AV → St → Option (AV × St)} {g : FuncId} {args : List AV} {E : T → AV} {mg : Option T} {k : AV → St → Option ρ} {mk : T → Option τ} (hf : ∀ S, HP S L → Fit (run g (args.map (fz S)) []) mg (P0 E)) (hk : ∀ t, mg = some t → Okh L (k (E t)) (mk t) P) :
  Okh L (fun S => pq (call0 run g args S) fun r => k r S) (mg.bind mk) P := fun S hS => by
 intro t ht
 rw [Option.bind_eq_some_iff] at ht
 obtain ⟨y, hy, hm⟩ := ht
 obtain ⟨⟨v, S1⟩, h1, h2⟩ := hf S hS y hy
 show ∃ r, pq (call0 run g args S) (fun r => k r S) = some r ∧ _
 unfold call0
 rw [h1]
 have h2 : fzr S1 v = E y := h2
 simp only [pq, h2]
 exact hk y hy S hS t hm
theorem q_c0t {T : Type} {run : FuncId → List AV → St → Option (AV × St)} {g : FuncId} {args : List AV} {E : T → AV} {y : T} {k : AV → St → Option ρ} (hf : ∀ S, HP S L → Fit (run g (args.map (fz S)) []) (some y) (P0 E)) (hk : Okh L (k (E y)) m P) :
  Okh L (fun S => pq (call0 run g args S) fun r => k r S) m P := fun S hS => by
 obtain ⟨⟨v, S1⟩, h1, h2⟩ := hf S hS y rfl
 have h2 : fzr S1 v = E y := h2
 show Fit (pq (call0 run g args S) fun r => k r S) m P
 unfold call0
 rw [h1]
 simp only [pq, h2]
 exact hk S hS
theorem args1 {M : List AV → Prop} {S : St} {c1 : AV} {f1 : Bool → AV} (h1 : CV 8 L false c1 f1) (hS : HP S L) (h : ∀ l1, M [f1 l1]) : M ([c1].map (fz S)) := by
 obtain ⟨l1, e1⟩ := h1.fz hS
 simp only [List.map_cons, List.map_nil, e1]; exact h l1
theorem args2 {M : List AV → Prop} {S : St} {c1 c2 : AV} {f1 f2 : Bool → AV} (h1 : CV 8 L false c1 f1) (h2 : CV 8 L false c2 f2) (hS : HP S L) (h : ∀ l1 l2, M [f1 l1, f2 l2]) : M ([c1, c2].map (fz S)) := by
 obtain ⟨l1, e1⟩ := h1.fz hS
 obtain ⟨l2, e2⟩ := h2.fz hS
 simp only [List.map_cons, List.map_nil, e1, e2]; exact h l1 l2
theorem args3 {M : List AV → Prop} {S : St} {c1 c2 c3 : AV} {f1 f2 f3 : Bool → AV} (h1 : CV 8 L false c1 f1) (h2 : CV 8 L false c2 f2) (h3 : CV 8 L false c3 f3) (hS : HP S L) (h : ∀ l1 l2 l3, M [f1 l1, f2 l2, f3 l3]) : M ([c1, c2, c3].map (fz S)) := by
 obtain ⟨l1, e1⟩ := h1.fz hS
 obtain ⟨l2, e2⟩ := h2.fz hS
 obtain ⟨l3, e3⟩ := h3.fz hS
 simp only [List.map_cons, List.map_nil, e1, e2, e3]; exact h l1 l2 l3
theorem q_ret {T : Type} {v : AV} {f : Bool → AV} {E : T → AV} {t : T} (h : CV 8 L true v f) (he : f false = E t) : Okh L (fun S => some (v, S)) (some t) (P0 E) := fun S hS t' ht => by
 injection ht with ht; subst ht
 exact ⟨_, rfl, (h.fzr hS).trans he⟩
theorem q_retm {T : Type} {x : St → Option AV} {v : AV} {f : Bool → AV} {E : T → AV} {t : T} (hx : ∀ S, HP S L → x S = some v) (h : CV 8 L true v f) (he : f false = E t) : Okh L (fun S => (x S).map (·, S)) (some t) (P0 E) := fun S hS t' ht => by
 injection ht with ht; subst ht
 exact ⟨(v, S), by show (x S).map (·, S) = _; rw [hx S hS]; rfl, (h.fzr hS).trans he⟩
theorem q_none {k : St → Option ρ} : Okh L k (none : Option τ) P := fun _ _ _ h => by cases h
end
inductive LO (σ : Type) where
 | norm (s : σ)
 | exit (i : Nat) (s : σ)
 | ret (s : σ)
def loopO {σ : Type} (f : σ → Option (LO σ)) : Nat → σ → Option (LO σ)
 | 0, _ => none
 | n + 1, s => (f s).bind fun
  | .norm s => loopO f n s
  | .exit i s => some (.exit i s)
  | .ret s => some (.ret s)
def PS {σ : Type} (I : σ → List AV → List En → Prop) : LO σ → AOut → Prop
 | .norm s, .norm l S => ∃ L, I s l L ∧ HP S L
 | .exit i s, .exit j l S => i = j ∧ ∃ L, I s l L ∧ HP S L
 | .ret s, .ret l S => ∃ L, I s l L ∧ HP S L
 | _, _ => False
section
variable {ρ τ σ : Type} {L : List En} {P : τ → ρ → Prop} {I : σ → List AV → List En → Prop}
theorem q_norm {l : List AV} {s : σ} (k : Nat) (h : I s l (L.drop k)) : Okh L (fun S => some (AOut.norm l S)) (some (LO.norm s)) (PS I) := fun S hS t ht => by
 injection ht with ht; subst ht
 exact ⟨_, rfl, _, h, hS.drop k⟩
def contO (mn : σ → Option τ) (me : Nat → σ → Option τ) (mr : σ → Option τ) : LO σ → Option τ
 | .norm s => mn s
 | .exit i s => me i s
 | .ret s => mr s
theorem q_cut {x : St → Option AOut} {ms : Option (LO σ)} {kn kr : List AV → St → Option ρ} {ke : Nat → List AV → St → Option ρ} {mn mr : σ → Option τ} {me : Nat → σ → Option τ} (hx : Okh L x ms (PS I))
  (hn : ∀ s l L', I s l L' → Okh L' (kn l) (mn s) P) (he : ∀ i s l L', I s l L' → Okh L' (ke i l) (me i s) P) (hr : ∀ s l L', I s l L' → Okh L' (kr l) (mr s) P) :
  Okh L (fun S => (x S).bind fun | .norm l S => kn l S | .exit i l S => ke i l S | .ret l S => kr l S) (ms.bind (contO mn me mr)) P := fun S hS t ht => by
 rw [Option.bind_eq_some_iff] at ht
 obtain ⟨o, ho, ht⟩ := ht
 obtain ⟨r, h1, h2⟩ := hx S hS o ho
 show ∃ r, (x S).bind _ = some r ∧ _
 rw [h1]
 cases o <;> cases r <;> simp only [PS] at h2
 ·obtain ⟨L', a, b⟩ := h2; exact hn _ _ _ a _ b t ht
 ·obtain ⟨rfl, L', a, b⟩ := h2; exact he _ _ _ _ a _ b t ht
 ·obtain ⟨L', a, b⟩ := h2; exact hr _ _ _ a _ b t ht
end
theorem HP.lda {S : St} {L : List En} (h : HP S L) {b o n : Nat} {cs cs' : List AV} (i : Nat) (hL : L[i]? = some (bx b cs)) (hc : (cs.drop o).take n = cs') (hn : cs'.length = n := by rfl) : ldA S (.bp b 0 o n 1) n = some (.agg cs') := by
 simp [ldA, h.cells hL, hc, hn]
theorem HP.ld {S : St} {L : List En} (h : HP S L) {b o n : Nat} {cs : List AV} {c : AV} (i : Nat) (hL : L[i]? = some (bx b cs)) (hc : (cs.drop o).take n = [c]) : ld1 S (.bp b 0 o n 1) = some c := by
 simp [ld1, h.cells hL, hc]
def wi (k : IntKind) (n : Int) : Int := k.wrap n
def maxI (x y : Int) : Int := if y > x then y else x
def minI (x y : Int) : Int := if y < x then y else x
section
variable {P : Program} {t : TypeId} {a b : Str}
theorem seq_neq : abin P .neq t (encS a) (encS b) = some (.bool !(a == b)) := by simp [abin, encS]
theorem seq_neq2 : bin2 P .neq t (encS a) (encS b) = some (.bool !(a == b)) := seq_neq (P := P) (t := t)
end
section
variable {ρ τ : Type} {L : List En} {m : Option τ} {P : τ → ρ → Prop}
theorem q_slen {a : Str} {k : AV → St → Option ρ} (hk : Okh L (k (.int .i64 (a.length : Int))) m P) : Okh L (fun S => pk (slen (encS a)) S fun r => k r S) m P :=
 q_p (x := fun _ => slen (encS a)) (fun _ => rfl) hk
theorem q_cat {G : Program} {t : TypeId} {a b : Str} {k : AV → St → Option ρ} {mk : Str → Option τ} (hk : ∀ s, catO a b = some s → Okh L (k (encS s)) (mk s) P) : Okh L (fun S => pk (abin G .add t (encS a) (encS b)) S fun r => k r S) ((catO a b).bind mk) P := fun S hS => by
 intro y hy
 rw [Option.bind_eq_some_iff] at hy
 obtain ⟨s, hs, hm⟩ := hy
 have h1 : abin G .add t (encS a) (encS b) = some (encS s) := by
  unfold catO at hs
  split at hs <;> try (cases hs; done)
  rename_i hb
  injection hs with hs; subst hs
  have e1 : (ByteArray.mk a.toArray).size = a.length := rfl
  have e2 : (ByteArray.mk b.toArray).size = b.length := rfl
  simp only [abin, encS, e1, e2]
  rw [if_pos hb]
  congr 2
 show ∃ r, pk (abin G .add t (encS a) (encS b)) S (fun r => k r S) = some r ∧ _
 rw [h1]
 exact hk s hs S hS y hm
theorem q_cat2 {G : Program} {t : TypeId} {a b : Str} {k : AV → St → Option ρ} {mk : Str → Option τ} (hk : ∀ s, catO a b = some s → Okh L (k (encS s)) (mk s) P) : Okh L (fun S => pk (bin2 G .add t (encS a) (encS b)) S fun r => k r S) ((catO a b).bind mk) P :=
 q_cat (G := G) (t := t) hk
end
def elP (sz : Nat) : AV → Nat → AV
 | .bsl b i0 _ L _, i => .bp b (i0 + i) 0 sz L
 | _, _ => .non
section
variable {ρ τ : Type} {L : List En} {m : Option τ} {P : τ → ρ → Prop} {α : Type} [e : Enc α] {l : Bool} {v : AV} {xs : List α} {n : Nat}
def mkO {α : Type} (by_ : Nat) (n : Int) (z : α) : Option (List α) := if 0 ≤ n ∧ (n.toNat + 1) * (by_ + 1) ≤ 70368744177664 then some (List.replicate n.toNat z) else none
end
def plc (l : List (Nat × Nat)) (i : Nat) : Option (Nat × Nat) := l[i]?
def P2 {τ : Type} (E : τ → AV) (F : τ → List En) (t : τ) (r : AV × St) : Prop := r.1 = E t ∧ HP r.2 (F t)
section
variable {ρ τ : Type} {L : List En} {m : Option τ} {P : τ → ρ → Prop}
def shlI (k : IntKind) (x y : Int) : Int := k.wrap (x * 2 ^ (min y.toNat k.bits))
def shrI (k : IntKind) (x y : Int) : Int := x.fdiv (2 ^ (min y.toNat k.bits))
def andI (k : IntKind) (x y : Int) : Int := k.wrap ((BitVec.ofInt k.bits x &&& BitVec.ofInt k.bits y).toNat)
def orI (k : IntKind) (x y : Int) : Int := k.wrap ((BitVec.ofInt k.bits x ||| BitVec.ofInt k.bits y).toNat)
def xorI (k : IntKind) (x y : Int) : Int := k.wrap ((BitVec.ofInt k.bits x ^^^ BitVec.ofInt k.bits y).toNat)
def shlO (k : IntKind) (x y : Int) : Option Int := if y < 0 then none else some (shlI k x y)
def shrO (k : IntKind) (x y : Int) : Option Int := if y < 0 then none else some (shrI k x y)
end
@[reducible] def Enc.copy {α : Type} (a : Enc α) (cs : Bool → α → List AV) (h : ∀ l x, cs l x = a.cs l x) (sz dp : Nat) (hs : sz = a.sz) (hd : dp = a.dp) : Enc α where
 sz := sz
 dp := dp
 cs := cs
 len l x := by rw [h, hs]; exact a.len l x
 inn l q x := by rw [h]; exact a.inn l q x
 nrm l l' x k hk := by rw [h, h]; exact a.nrm l l' x k (by omega)
 frz l x brw S k hk := by rw [h]; exact a.frz l x brw S k hk
 ltd x k hk := by rw [h]; exact a.ltd x k (by omega)
theorem up {n d : Nat} (h : n + 1 ≤ d) : ∃ e, d = e + 1 ∧ n ≤ e := ⟨d - 1, by omega, by omega⟩
end Go.Rf
