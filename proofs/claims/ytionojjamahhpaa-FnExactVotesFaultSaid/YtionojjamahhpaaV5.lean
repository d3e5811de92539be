/- VotesFault: sizes; the law. -/
import Derived.Test.YtionojjamahhpaaV4
namespace Go.Proofs.Ytionojjamahhpaa
open Go Go.Rf
variable {N d : Nat}
noncomputable def Y45 (N d : Nat) (g : 2 ≤ d) (x : Vt) (z : Int) : Int := Classical.choose (r45 (N := N) g x z)
theorem Y45_ok (g : 2 ≤ d) (x : Vt) (z : Int) : Ret (R N d 45 [.agg (encV x), .int .i64 z] []) (.int .i64 (Y45 N d g x z)) := Classical.choose_spec (r45 (N := N) g x z)

theorem r8 (h : 3 ≤ d) (l fl : Bool) (xs : List Vt) (hN : 1048576 < N) (hx : xs.length ≤ maxLen) : ∃ y : Int, Ret (R N d 8 [.rsl l fl (xs.map encV), .int .i64 1048576] []) (.int .i64 y) ∧ (0 ≤ y → xs.length ≤ 1048576) := by
  obtain ⟨d, rfl, g⟩ := up h
  rw [t8]; unfold b8
  have hal : alen (.rsl l fl (xs.map encV)) = some (.int .i64 xs.length) := by simp [alen]
  have hw : IntKind.i64.wrap (1048576 - (xs.length : Int)) = 1048576 - (xs.length : Int) := w64 (by simp [maxLen] at hx; omega) (by omega)
  by_cases hc : xs.length ≤ 1048576
  · obtain ⟨o, ho, hr⟩ := aloop_rel (xs := xs) (step := s8_0 (cfg N) (R N d) (.rsl l fl (xs.map encV))) (fun i (s : Int) => [.int .i64 s, .int .i64 0, .int .i64 i]) (fun i _ => []) (fun x s => if Y45 N d g x s < 0 then Sum.inr () else Sum.inl (Y45 N d g x s)) (fun _ => ())
      (fun o _ => ∃ (z : Int) (q q' : AV) (S : St), o = .exit 0 [.int .i64 z, q, q'] S ∨ o = .ret [q, .int .i64 z, q'] S)
      (fun i x s hxi => by
        have hlt : i < xs.length := (List.getElem?_eq_some_iff.1 hxi).1
        have key : s8_0 (cfg N) (R N d) (.rsl l fl (xs.map encV)) [.int .i64 s, .int .i64 0, .int .i64 i] [] = if Y45 N d g x s < 0 then some (.ret [.int .i64 (Y45 N d g x s), .int .i64 (-1), .int .i64 i] []) else some (.norm [.int .i64 (Y45 N d g x s), .int .i64 0, .int .i64 (i + 1 : Nat)] []) := by
          unfold s8_0
          refine pk_to hal (pk_to rfl (ifA_to (fun _ => ?_) (fun h => ?_)))
          · refine pk_to (pindex_at rfl (enc_at hxi) rfl) (pk_to rfl (pq_to (call0_ret rfl (Y45_ok g x s)) (pk_to rfl (ifA_to (fun h => ?_) (fun h => pk_to rfl ?_)))))
            · rw [if_pos (by simpa using h)]; rfl
            · rw [if_neg (by simpa using h)]
              show some (AOut.norm [_, _, .int .i64 (IntKind.i64.wrap ((i : Int) + 1))] _) = _
              rw [w64 (by omega) (by omega)]
              rfl
          · have := dec_false h
            omega
        refine ⟨fun s' hs => ?_, fun b hs => ?_⟩
        · by_cases hb : Y45 N d g x s < 0
          · simp [hb] at hs
          · simp [hb] at hs; subst hs; rw [key, if_neg hb]
        · by_cases hb : Y45 N d g x s < 0
          · exact ⟨_, by rw [key, if_pos hb], rfl, _, _, _, _, .inr rfl⟩
          · simp [hb] at hs)
      (fun s => ⟨.exit 0 [.int .i64 s, .int .i64 0, .int .i64 xs.length] [], by
        unfold s8_0
        refine pk_to hal (pk_to rfl (ifA_to (fun h => ?_) (fun _ => rfl)))
        simp at h, rfl, _, _, _, _, .inl rfl⟩) (cfg N).N (by rw [cfgN]; omega) (1048576 - (xs.length : Int))
    obtain ⟨z, q, q', S', hz⟩ := hr
    refine ⟨z, ret_pk hal (ret_pk (congrArg (fun t => some (AV.int .i64 t)) hw) (ret_pk rfl (ret_if (fun h => ?_) (fun _ => ret_bind ho ?_)))), fun _ => hc⟩
    · simp at h; omega
    · rcases hz with rfl | rfl
      · exact ret_some rfl
      · exact ret_some rfl
  · refine ⟨-1, ret_pk hal (ret_pk (congrArg (fun t => some (AV.int .i64 t)) hw) (ret_pk rfl (ret_if (fun _ => ret_some rfl) (fun h => ?_)))), fun h => by omega⟩
    simp at h; omega

theorem r3 (h : 8 ≤ d) (f : Int) (fl : Bool) (l : Bool) (xs : List Vt) (hN : 1048576 < N) (hx : xs.length ≤ maxLen) : ∃ S1, R N d 3 [.int .i64 f, .rsl l fl (xs.map encV)] [] = some (.bool true, S1) := by
  obtain ⟨d, rfl, g⟩ := up h
  rw [t3]; unfold b3
  obtain ⟨y, h1, h2⟩ := r8 (N := N) (d := d) (by omega) l fl xs hN hx
  cases hy : decide (y < 0)
  · have hl := h2 (by simpa using hy)
    refine ⟨_, pq_to (call0_ret rfl h1) (pk_to rfl (ifA_to (fun h => absurd (hy.symm.trans h) (by simp)) (fun _ => pq_to (call0_ret rfl (r10 (by omega) l fl xs hN hl)) (pq_to (call0_ret rfl (r9 (by omega) f false true xs (by omega))) (pq_to (call0_ret rfl (r10 (by omega) l fl xs hN hl)) (pq_to (call0_ret rfl (r11 (by omega) f false true xs (by omega))) (pk_to rfl (ifA_to (fun h => ?_) (fun _ => pq_to (call0_ret rfl (r10 (by omega) l fl xs hN hl)) (pq_to (call0_ret rfl (r12 (by omega) false true false true xs hN hl)) (pk_to rfl (ifA_to (fun h => ?_) (fun _ => rfl)))))))))))))⟩
    · simp at h
    · cases h
  · exact ⟨_, pq_to (call0_ret rfl h1) (pk_to rfl (ifA_to (fun _ => rfl) (fun h => absurd (hy.symm.trans h) (by simp))))⟩
end Go.Proofs.Ytionojjamahhpaa
