/- Words for what the evaluator makes of a function. -/
import Derived.Test.YtionojjamahhpaaRf20
namespace Go.Rf
open Go

def boxA (x : AV) (S : St) : Option (AV × St) := if (cellsA x).length = 0 then none else some (newBox S (cellsA x))
def bin2 (P : Program) (op : BinOp) (t : TypeId) (x y : AV) : Option AV := match x, y with
  | .nili, .nili => none
  | a, b => abin P op t a b
def pickA (c a b : AV) (S : St) : Option (AV × St) := match c with
  | .bool t => some (if t then a else b, S)
  | _ => none
def nilA (v : AV) (S : St) : Option (AV × St) := match v with
  | .rp l cs => some (.rp l cs, S)
  | .bp b i o n L => some (.bp b i o n L, S)
  | .fn g cs => some (.fn g cs, S)
  | _ => none
def storeA (n : Nat) (p x : AV) (S : St) : Option (AV × St) := if (cellsA x).length = n ∧ n ≠ 0 then (stA S p (cellsA x)).map (und, ·) else none
def sliceA (n : Nat) (x : AV) (lo hi mx : Option AV) (S : St) : Option (AV × St) := match x with
  | .str _ => none
  | x => (aslice n x lo hi mx S).map (·, S)
def sliceS (x : AV) (lo hi mx : Option AV) (S : St) : Option (AV × St) := match x with
  | .str s => (aslice 0 (.str s) lo hi mx S).map (·, S)
  | _ => none
def extA (t : AV) (i : Nat) (S : St) : Option (AV × St) := match t with
  | .tup vs => (vs[i]?).map (·, S)
  | _ => none
def appA (n by_ : Nat) (s x : AV) (S : St) : Option (AV × St) := match elemsOf S x with
  | some news => aapp n by_ s news S
  | none => none
def appS (by_ : Nat) (s x : AV) (S : St) : Option (AV × St) := match (match x with | .str u => some (strCells u) | _ => none) with
  | some news => aapp 1 by_ s news S
  | none => none
noncomputable def ifA {ρ : Type} (c : AV) (a b : Option ρ) : Option ρ := match c with
  | .bool t => bif t then a else b
  | .ub => bothK a b
  | _ => none
def guardA {ρ : Type} (c : AV) (want : Bool) (yes no : Option ρ) : Option ρ := match c with
  | .bool b => bif b == want then yes else no
  | _ => none
def call0 (run : FuncId → List AV → St → Option (AV × St)) (g : FuncId) (args : List AV) (S : St) : Option (AV × St) := match run g (args.map (fz S)) [] with
  | some (v, S1) => some (fzr S1 v, S)
  | none => none
def call1 (run : FuncId → List AV → St → Option (AV × St)) (g : FuncId) (args : List AV) (S : St) : Option (AV × St) := match run g (args.map (fz S)) [] with
  | some (v, S1) => some (shv S.length (scrub v), S ++ S1.map (shB S.length))
  | none => none
def callS (run : FuncId → List AV → St → Option (AV × St)) (g : FuncId) (args : List AV) (S : St) : Option (AV × St) := run g args S
def callV (C : Cfg) (run : FuncId → List AV → St → Option (AV × St)) (f : FuncId) (v : AV) (args : List AV) (S : St) : Option (AV × St) := match v with
  | .fn g cap => acall C run f g (args ++ cap) S
  | _ => none
def res2 (x y : Option AV) : Option AV := match x, y with
  | some x, some y => some (.tup [x, y])
  | _, _ => none
def res3 (x y z : Option AV) : Option AV := match x, y, z with
  | some x, some y, some z => some (.tup [x, y, z])
  | _, _, _ => none

/-- Tables. -/
def lookT (t : List (Nat × List Nat)) (k : Nat) : Option (List Nat) := match t with
  | [] => none
  | (k', l) :: r => bif Nat.beq k k' then some l else lookT r k
def lookM (t : List (Nat × Nat)) (k : Nat) : Nat := match t with
  | [] => 0
  | (k', l) :: r => bif Nat.beq k k' then l else lookM r k

/-! ## Going forward -/
def pk {ρ : Type} (x : Option AV) (S : St) (k : AV → Option ρ) : Option ρ := match x.map (·, S) with
  | some (v, _) => k v
  | none => none
def pq {ρ : Type} (x : Option (AV × St)) (k : AV → Option ρ) : Option ρ := match x with
  | some (v, _) => k v
  | none => none
def pe {ρ : Type} (x : Option (AV × St)) (k : AV → St → Option ρ) : Option ρ := match x with
  | some (v, S) => k v S
  | none => none
theorem pk_to {ρ : Type} {x : Option AV} {S : St} {k : AV → Option ρ} {v : AV} {r : Option ρ} (h : x = some v) (hk : k v = r) : pk x S k = r := by rw [h]; exact hk
theorem pq_to {ρ : Type} {x : Option (AV × St)} {k : AV → Option ρ} {v : AV} {S : St} {r : Option ρ} (h : x = some (v, S)) (hk : k v = r) : pq x k = r := by rw [h]; exact hk
theorem pe_to {ρ : Type} {x : Option (AV × St)} {k : AV → St → Option ρ} {v : AV} {S : St} {r : Option ρ} (h : x = some (v, S)) (hk : k v S = r) : pe x k = r := by rw [h]; exact hk
theorem call0_to {run : FuncId → List AV → St → Option (AV × St)} {g : FuncId} {args args' : List AV} {S S1 : St} {v : AV} (ha : args.map (fz S) = args') (h : run g args' [] = some (v, S1)) : call0 run g args S = some (fzr S1 v, S) := by
  unfold call0; rw [ha, h]
theorem ifA_to {ρ : Type} {b : Bool} {x y r : Option ρ} (h1 : b = true → x = r) (h2 : b = false → y = r) : ifA (.bool b) x y = r := by cases b; exact h2 rfl; exact h1 rfl
theorem guardT_to {ρ : Type} {b : Bool} {x y r : Option ρ} (h1 : b = true → x = r) (h2 : b = false → y = r) : guardA (.bool b) true x y = r := by cases b; exact h2 rfl; exact h1 rfl
theorem guardF_to {ρ : Type} {b : Bool} {x y r : Option ρ} (h1 : b = true → y = r) (h2 : b = false → x = r) : guardA (.bool b) false x y = r := by cases b; exact h2 rfl; exact h1 rfl

/-- What a function gives to a caller that hands it frozen arguments. -/
def Ret (x : Option (AV × St)) (v : AV) : Prop := ∃ v0 S1, x = some (v0, S1) ∧ fzr S1 v0 = v
section
variable {x : Option AV} {y : Option (AV × St)} {S S1 : St} {v r : AV}
theorem ret_pk {k : AV → Option (AV × St)} (h : x = some v) (hk : Ret (k v) r) : Ret (pk x S k) r := by rw [h]; exact hk
theorem ret_pq {k : AV → Option (AV × St)} (h : y = some (v, S)) (hk : Ret (k v) r) : Ret (pq y k) r := by rw [h]; exact hk
theorem ret_pe {k : AV → St → Option (AV × St)} (h : y = some (v, S)) (hk : Ret (k v S) r) : Ret (pe y k) r := by rw [h]; exact hk
theorem ret_some (h : fzr S v = r) : Ret (some (v, S)) r := ⟨v, S, rfl, h⟩
theorem ret_if {b : Bool} {x y : Option (AV × St)} (h1 : b = true → Ret x r) (h2 : b = false → Ret y r) : Ret (ifA (.bool b) x y) r := by cases b; exact h2 rfl; exact h1 rfl
theorem ret_gT {b : Bool} {x y : Option (AV × St)} (h1 : b = true → Ret x r) (h2 : b = false → Ret y r) : Ret (guardA (.bool b) true x y) r := by cases b; exact h2 rfl; exact h1 rfl
theorem ret_gF {b : Bool} {x y : Option (AV × St)} (h1 : b = true → Ret y r) (h2 : b = false → Ret x r) : Ret (guardA (.bool b) false x y) r := by cases b; exact h2 rfl; exact h1 rfl
theorem ret_bind {x : Option AOut} {o : AOut} {f : AOut → Option (AV × St)} (h : x = some o) (hk : Ret (f o) r) : Ret (x.bind f) r := by rw [h]; exact hk
theorem call0_ret {run : FuncId → List AV → St → Option (AV × St)} {g : FuncId} {args args' : List AV} {S : St} {v : AV} (ha : args.map (fz S) = args') (h : Ret (run g args' []) v) : call0 run g args S = some (v, S) := by
  obtain ⟨v0, S1, h1, h2⟩ := h
  unfold call0; rw [ha, h1]; rw [← h2]
end

/-- A loop over a list, with a way out. -/
def AOut.stops : AOut → Bool
  | .norm _ _ => false
  | _ => true
def foldE {α σ β : Type} (m : α → σ → σ ⊕ β) (fin : σ → β) : List α → σ → β
  | [], s => fin s
  | x :: r, s => match m x s with
    | .inl s' => foldE m fin r s'
    | .inr o => o
theorem aloop_rel {α σ β : Type} {step : List AV → St → Option AOut} {xs : List α} (l : Nat → σ → List AV) (T : Nat → σ → St) (m : α → σ → σ ⊕ β) (fin : σ → β) (Res : AOut → β → Prop)
    (hstep : ∀ (i : Nat) (x : α) (s : σ), xs[i]? = some x → (∀ s', m x s = .inl s' → step (l i s) (T i s) = some (.norm (l (i + 1) s') (T (i + 1) s'))) ∧
      (∀ b, m x s = .inr b → ∃ o, step (l i s) (T i s) = some o ∧ o.stops = true ∧ Res o b))
    (hend : ∀ s, ∃ o, step (l xs.length s) (T xs.length s) = some o ∧ o.stops = true ∧ Res o (fin s)) (N : Nat) (hN : xs.length < N) (s : σ) : ∃ o, aloop step N (l 0 s) (T 0 s) = some o ∧ Res o (foldE m fin xs s) := by
  suffices ∀ (rest : List α) (k : Nat), xs.drop k = rest → k ≤ xs.length → ∀ s n, rest.length < n → ∃ o, aloop step n (l k s) (T k s) = some o ∧ Res o (foldE m fin rest s) from this xs 0 (by simp) (by omega) s N hN
  have hstop : ∀ (n : Nat) (a : List AV) (b : St) (o : AOut), o.stops = true → step a b = some o → aloop step (n + 1) a b = some o := by
    intro n a b o ho h
    simp only [aloop, h, Option.bind_some]
    cases o <;> simp [AOut.stops] at ho <;> rfl
  intro rest
  induction rest with
  | nil =>
    intro k hk hkn s n hn
    cases n with
    | zero => omega
    | succ n =>
      have hkl : xs.length ≤ k := by simpa using hk
      have : k = xs.length := by omega
      subst this
      obtain ⟨o, h1, h2, h3⟩ := hend s
      exact ⟨o, hstop n _ _ _ h2 h1, h3⟩
  | cons x rest ih =>
    intro k hk hkn s n hn
    cases n with
    | zero => omega
    | succ n =>
      have hx : xs[k]? = some x := by
        have : (xs.drop k)[0]? = some x := by rw [hk]; rfl
        simpa using this
      have hk1 : xs.drop (k + 1) = rest := by rw [← List.drop_drop, hk]; rfl
      obtain ⟨h1, h2⟩ := hstep k x s hx
      simp only [foldE]
      cases hmx : m x s with
      | inl s' =>
        simp only [aloop, h1 s' hmx, Option.bind_some]
        exact ih (k + 1) hk1 (by have := (List.getElem?_eq_some_iff.1 hx).1; omega) s' n (by simp at hn; omega)
      | inr b =>
        obtain ⟨o, k1, k2, k3⟩ := h2 b hmx
        exact ⟨o, hstop n _ _ _ k2 k1, k3⟩
theorem bind_to {x : Option AOut} {ρ : Type} {f : AOut → Option ρ} {r : Option ρ} (o : AOut) (h : x = some o) (hk : f o = r) : x.bind f = r := by rw [h]; exact hk
theorem w64 {x : Int} (h1 : -9223372036854775808 ≤ x) (h2 : x ≤ 9223372036854775807) : IntKind.i64.wrap x = x := by
  simp [IntKind.wrap, IntKind.signed, IntKind.bits]
  (try split) <;> omega
theorem pindex_at {l fl : Bool} {es : List (List AV)} {k : IntKind} {i : Int} {n sz : Nat} {e : List AV} {S : St} (hi : i = n) (h : es[n]? = some e) (hs : e.length = sz) : pindex sz (.rsl l fl es) (.int k i) S = some (.rp l e) := by
  subst hi
  simp [pindex, h, hs]
end Go.Rf
