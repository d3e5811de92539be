/- VotesFault: the loops. -/
import Derived.Test.YtionojjamahhpaaV1
namespace Go.Proofs.Ytionojjamahhpaa
open Go Go.Rf
variable {N d : Nat}
structure Vt where
  v : Int
  a : Int
  b : Int
  s : ByteArray
def encV (x : Vt) : List AV := [.int .i64 x.v, .int .i64 x.a, .int .i64 x.b, .str x.s]
def badV (f : Int) (x : Vt) : Bool := !(inR x.v 1 (many f)) || !(repOk x.a x.b x.s)
theorem enc_at {xs : List Vt} {i : Nat} {x : Vt} (h : xs[i]? = some x) : (xs.map encV)[i]? = some (encV x) := by simp [h]
theorem lss_of {i n : Nat} (h : i < n) : decide ((i : Int) < (n : Int)) = true := by simp; omega

def faultV (f : Int) (xs : List Vt) : Int := if !(inR f 1 2) then 3 else if (xs.length : Int) > 40 then 2 else if xs.any (badV f) then 3 else 0
theorem fold46 (f : Int) (xs : List Vt) : foldE (fun (x : Vt) (_ : Unit) => if badV f x then Sum.inr (3 : Int) else Sum.inl ()) (fun _ => 0) xs () = if xs.any (badV f) then 3 else 0 := by
  induction xs with
  | nil => rfl
  | cons x r ih => simp only [foldE, List.any_cons]; by_cases hb : badV f x = true <;> simp [hb, ih]
theorem dec_false {a b : Int} (h : decide (a < b) = false) : b ≤ a := by simp at h; exact h

theorem s46_step (g : 2 ≤ d) (f : Int) (l fl : Bool) {xs : List Vt} {i : Nat} {x : Vt} (hx : xs[i]? = some x) (hb : i < 100) : s46_0 (cfg N) (R N d) (.int .i64 f) (.rsl l fl (xs.map encV)) [.int .i64 0, .int .i64 i] [] = if badV f x then some (.ret [.int .i64 3, .int .i64 i] []) else some (.norm [.int .i64 0, .int .i64 (i + 1 : Nat)] []) := by
  have hlt : i < xs.length := (List.getElem?_eq_some_iff.1 hx).1
  unfold s46_0
  refine pk_to rfl (pk_to rfl (ifA_to (fun _ => ?_) (fun h => ?_)))
  · cases hv : inR x.v 1 (many f)
    · refine bind_to (.ret [.int .i64 3] []) (pk_to (pindex_at rfl (enc_at hx) rfl) (pk_to rfl (pk_to rfl (pq_to (call0_ret rfl (r83 g _ _)) (pk_to rfl (guardF_to (fun h => rfl) (fun h => ?_))))))) ?_
      · rw [hv] at h; cases h
      · simp [badV, hv]
    · cases hr : repOk x.a x.b x.s
      · refine bind_to (.ret [.int .i64 3] []) (pk_to (pindex_at rfl (enc_at hx) rfl) (pk_to rfl (pk_to rfl (pq_to (call0_ret rfl (r83 g _ _)) (pk_to rfl (guardF_to (fun h => rfl) (fun h => pk_to (pindex_at rfl (enc_at hx) rfl) (pk_to rfl (pq_to (call0_ret rfl (r84 g _ _ _ _)) (pk_to rfl (ifA_to (fun h => rfl) (fun h => ?_)))))))))))) ?_
        · rw [hr] at h; cases h
        · simp [badV, hr]
      · refine bind_to (.norm [.int .i64 0] []) (pk_to (pindex_at rfl (enc_at hx) rfl) (pk_to rfl (pk_to rfl (pq_to (call0_ret rfl (r83 g _ _)) (pk_to rfl (guardF_to (fun h => ?_) (fun h => pk_to (pindex_at rfl (enc_at hx) rfl) (pk_to rfl (pq_to (call0_ret rfl (r84 g _ _ _ _)) (pk_to rfl (ifA_to (fun h => ?_) (fun h => rfl))))))))))))  ?_
        · rw [hv] at h; cases h
        · rw [hr] at h; cases h
        · refine pk_to rfl ?_
          show some (AOut.norm [.int .i64 0, .int .i64 (IntKind.i64.wrap ((i : Int) + 1))] []) = _
          rw [w64 (by omega) (by omega)]
          simp [badV, hv, hr]
  · have := dec_false h
    rw [List.length_map] at this; omega

theorem r46 (h : 3 ≤ d) (f : Int) (l fl : Bool) (xs : List Vt) (hN : 40 < N) : Ret (R N d 46 [.int .i64 f, .rsl l fl (xs.map encV)] []) (.int .i64 (faultV f xs)) := by
  obtain ⟨d, rfl, g⟩ := up h
  rw [t46]; unfold b46
  refine ret_pq (call0_ret rfl (r71 g _)) (ret_pk rfl (ret_if (fun h1 => ret_some ?_) (fun h1 => ret_pk rfl (ret_pk rfl (ret_if (fun h2 => ret_some ?_) (fun h2 => ?_))))))
  · simp only [faultV, h1]; rfl
  · simp only [faultV, h1]
    simp at h2
    rw [if_neg (by simp), if_pos (by simpa using h2)]; rfl
  · simp at h2
    obtain ⟨o, ho, hr⟩ := aloop_rel (xs := xs) (step := s46_0 (cfg N) (R N d) (.int .i64 f) (.rsl l fl (xs.map encV))) (fun i (_ : Unit) => [.int .i64 0, .int .i64 i]) (fun _ _ => []) (fun x _ => if badV f x then Sum.inr (3 : Int) else Sum.inl ()) (fun _ => 0)
      (fun o c => (c = 0 ∧ ∃ l S, o = .exit 0 l S) ∨ (c = 3 ∧ ∃ i S, o = .ret [.int .i64 3, i] S))
      (fun i x s hx => by
        have hlt : i < xs.length := (List.getElem?_eq_some_iff.1 hx).1
        have key := s46_step (N := N) g f l fl hx (by omega)
        refine ⟨fun s' hs => ?_, fun b hs => ?_⟩
        · by_cases hb : badV f x = true
          · simp [hb] at hs
          · rw [key, if_neg hb]
        · by_cases hb : badV f x = true
          · simp [hb] at hs; subst hs
            exact ⟨_, by rw [key, if_pos hb], rfl, .inr ⟨rfl, _, _, rfl⟩⟩
          · simp [hb] at hs)
      (fun s => ⟨.exit 0 [.int .i64 0, .int .i64 xs.length] [], by
        unfold s46_0
        refine pk_to rfl (pk_to rfl (ifA_to (fun h => ?_) (fun _ => rfl)))
        simp at h, rfl, .inl ⟨rfl, _, _, rfl⟩⟩) (cfg N).N (by rw [cfgN]; omega) ()
    rw [fold46] at hr
    refine ret_bind ho ?_
    have hf : faultV f xs = if xs.any (badV f) then 3 else 0 := by
      unfold faultV
      rw [h1, if_neg (by simp), if_neg (by omega)]
    rw [hf]
    rcases hr with ⟨h3, l', S', rfl⟩ | ⟨h3, i', S', rfl⟩
    · rw [h3]; exact ret_some rfl
    · rw [h3]; exact ret_some rfl
end Go.Proofs.Ytionojjamahhpaa
