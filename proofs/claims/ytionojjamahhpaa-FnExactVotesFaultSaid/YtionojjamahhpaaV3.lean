/- VotesFault: closures, copies, comparison. -/
import Derived.Test.YtionojjamahhpaaV2
namespace Go.Proofs.Ytionojjamahhpaa
open Go Go.Rf
variable {N d : Nat}

theorem cV50 (run : FuncId → List AV → St → Option (AV × St)) (cap args : List AV) (S : St) : callV (cfg N) run 86 (.fn 50 cap) args S = call0 run 50 (args ++ cap) S := by kernel_rfl

theorem foldAny {α : Type} (p : α → Bool) (xs : List α) : foldE (fun (x : α) (_ : Unit) => if p x then Sum.inr true else Sum.inl ()) (fun _ => false) xs () = xs.any p := by
  induction xs with
  | nil => rfl
  | cons x r ih => simp only [foldE, List.any_cons]; by_cases hb : p x = true <;> simp [hb, ih]

theorem r86 (h : 4 ≤ d) (f : Int) (l fl l2 : Bool) (xs : List Vt) (hN : 40 < N) (hx : xs.length ≤ 40) : ∃ z : Int, Ret (R N d 86 [.rsl l fl (xs.map encV), .fn 50 [.rp l2 [.int .i64 f]]] []) (.int .i64 z) ∧ decide (z ≥ 0) = xs.any (badV f) := by
  obtain ⟨d, rfl, g⟩ := up h
  rw [t86]; unfold b86
  obtain ⟨o, ho, hr⟩ := aloop_rel (xs := xs) (step := s86_0 (cfg N) (R N d) (.rsl l fl (xs.map encV)) (.fn 50 [.rp l2 [.int .i64 f]]) (.int .i64 ((xs.map encV).length : Nat))) (fun i (_ : Unit) => [.int .i64 0, .int .i64 i]) (fun _ _ => []) (fun x _ => if badV f x then Sum.inr true else Sum.inl ()) (fun _ => false)
      (fun o c => (c = false ∧ ∃ l S, o = .exit 0 l S) ∨ (c = true ∧ ∃ (i : Nat) (S : St), o = .ret [.int .i64 i, .int .i64 i] S))
      (fun i x s hxi => by
        have hlt : i < xs.length := (List.getElem?_eq_some_iff.1 hxi).1
        have key : s86_0 (cfg N) (R N d) (.rsl l fl (xs.map encV)) (.fn 50 [.rp l2 [.int .i64 f]]) (.int .i64 ((xs.map encV).length : Nat)) [.int .i64 0, .int .i64 i] [] = if badV f x then some (.ret [.int .i64 i, .int .i64 i] []) else some (.norm [.int .i64 0, .int .i64 (i + 1 : Nat)] []) := by
          unfold s86_0
          refine pk_to rfl (ifA_to (fun _ => ?_) (fun h => ?_))
          · refine pk_to (pindex_at rfl (enc_at hxi) rfl) (pk_to rfl (pe_to ((cV50 _ _ _ _).trans (call0_ret rfl (r50 g f x.v x.a x.b x.s l2))) (ifA_to (fun h => ?_) (fun h => pk_to rfl ?_))))
            · rw [if_pos (show badV f x = true from h)]; rfl
            · show some (AOut.norm [.int .i64 0, .int .i64 (IntKind.i64.wrap ((i : Int) + 1))] []) = _
              rw [w64 (by omega) (by omega), if_neg (by rw [show badV f x = false from h]; simp)]
              rfl
          · have := dec_false h
            rw [List.length_map] at this; omega
        refine ⟨fun s' hs => ?_, fun b hs => ?_⟩
        · by_cases hb : badV f x = true
          · simp [hb] at hs
          · rw [key, if_neg hb]
        · by_cases hb : badV f x = true
          · simp [hb] at hs; subst hs
            exact ⟨_, by rw [key, if_pos hb], rfl, .inr ⟨rfl, _, _, rfl⟩⟩
          · simp [hb] at hs)
      (fun s => ⟨.exit 0 [.int .i64 0, .int .i64 xs.length] [], by
        unfold s86_0
        refine pk_to rfl (ifA_to (fun h => ?_) (fun _ => rfl))
        simp at h, rfl, .inl ⟨rfl, _, _, rfl⟩⟩) (cfg N).N (by rw [cfgN]; omega) ()
  rw [foldAny] at hr
  rcases hr with ⟨h3, l', S', rfl⟩ | ⟨h3, i', S', rfl⟩
  · exact ⟨-1, ret_pk rfl (ret_bind ho (ret_some rfl)), by rw [h3]; rfl⟩
  · exact ⟨i', ret_pk rfl (ret_bind ho (ret_some rfl)), by rw [h3]; simp⟩

theorem r49 (h : 5 ≤ d) (f : Int) (l fl l2 : Bool) (xs : List Vt) (hN : 40 < N) (hx : xs.length ≤ 40) : Ret (R N d 49 [.rsl l fl (xs.map encV), .fn 50 [.rp l2 [.int .i64 f]]] []) (.bool (xs.any (badV f))) := by
  obtain ⟨d, rfl, g⟩ := up h
  rw [t49]; unfold b49
  obtain ⟨z, h1, h2⟩ := r86 g f l fl l2 xs hN hx
  refine ret_pq (call0_ret rfl h1) (ret_pk rfl (ret_some ?_))
  rw [← h2]; rfl

theorem r11 (h : 6 ≤ d) (f : Int) (l fl : Bool) (xs : List Vt) (hN : 40 < N) : Ret (R N d 11 [.int .i64 f, .rsl l fl (xs.map encV)] []) (.int .i64 (faultV f xs)) := by
  obtain ⟨d, rfl, g⟩ := up h
  rw [t11]; unfold b11
  refine ret_pe rfl (ret_pk rfl (ret_pq (call0_ret rfl (r48 (by omega) _)) (ret_pk rfl (ret_if (fun h1 => ret_some ?_) (fun h1 => ret_pk rfl (ret_pk rfl (ret_if (fun h2 => ret_some ?_) (fun h2 => ?_))))))))
  · simp only [faultV, h1]; rfl
  · simp only [faultV, h1]
    simp at h2
    rw [if_neg (by simp), if_pos (by simpa using h2)]; rfl
  · simp at h2
    have hf : faultV f xs = if xs.any (badV f) then 3 else 0 := by
      unfold faultV
      rw [h1, if_neg (by simp), if_neg (by omega)]
    refine ret_pq (call0_ret rfl (r49 g f l fl true xs hN (by omega))) (ret_if (fun h3 => ret_some ?_) (fun h3 => ret_some ?_))
    · rw [hf, h3]; rfl
    · rw [hf, h3]; rfl

theorem r9 (h : 4 ≤ d) (f : Int) (l fl : Bool) (xs : List Vt) (hN : 40 < N) : Ret (R N d 9 [.int .i64 f, .rsl l fl (xs.map encV)] []) (.int .i64 (faultV f xs)) := by
  obtain ⟨d, rfl, g⟩ := up h
  rw [t9]; unfold b9
  exact ret_pq (call0_ret rfl (r46 g f l fl xs hN)) (ret_some rfl)

theorem r70 (h : 1 ≤ d) (a b : Int) (s : ByteArray) : Ret (R N d 70 [.agg [.int .i64 a, .int .i64 b, .str s], .agg [.int .i64 a, .int .i64 b, .str s]] []) (.bool true) := by
  obtain ⟨d, rfl, g⟩ := up h
  rw [t70]; unfold b70
  refine ret_pe rfl (ret_pe rfl (ret_pk rfl (ret_pk rfl (ret_pk rfl (ret_pk rfl (ret_pk rfl (ret_if (fun h => ?_) (fun _ => ret_pk rfl (ret_pk rfl (ret_pk rfl (ret_pk rfl (ret_pk rfl (ret_if (fun h => ?_) (fun _ => ret_pk rfl (ret_pk rfl (ret_pk rfl (ret_pk rfl (ret_pk rfl (ret_if (fun h => ?_) (fun _ => ret_some rfl))))))))))))))))))))
  · simp at h
  · simp at h
  · simp at h
theorem r53 (h : 2 ≤ d) (x : Vt) : Ret (R N d 53 [.agg (encV x), .agg (encV x)] []) (.bool true) := by
  obtain ⟨d, rfl, g⟩ := up h
  rw [t53]; unfold b53
  refine ret_pe rfl (ret_pe rfl (ret_pk rfl (ret_pk rfl (ret_pk rfl (ret_pk rfl (ret_pk rfl (ret_if (fun h => ?_) (fun _ => ret_pk rfl (ret_pk rfl (ret_pk rfl (ret_pk rfl (ret_pq (call0_ret rfl (r70 g _ _ _)) (ret_pk rfl (ret_if (fun h => ?_) (fun _ => ret_some rfl)))))))))))))))
  · simp at h
  · simp at h
theorem r37 (h : 1 ≤ d) (a b z : Int) (s : ByteArray) : ∃ y : Int, Ret (R N d 37 [.agg [.int .i64 a, .int .i64 b, .str s], .int .i64 z] []) (.int .i64 y) := by
  obtain ⟨d, rfl, g⟩ := up h
  rw [t37]; unfold b37
  cases hc : decide (IntKind.i64.wrap (z - (s.size : Int)) < 0)
  · exact ⟨_, ret_pe rfl (ret_pk rfl (ret_pk rfl (ret_pk rfl (ret_pk rfl (ret_pk rfl (ret_if (fun h => by rw [hc] at h; cases h) (fun _ => ret_some rfl)))))))⟩
  · exact ⟨_, ret_pe rfl (ret_pk rfl (ret_pk rfl (ret_pk rfl (ret_pk rfl (ret_pk rfl (ret_if (fun _ => ret_some rfl) (fun h => by rw [hc] at h; cases h)))))))⟩
theorem r45 (h : 2 ≤ d) (x : Vt) (z : Int) : ∃ y : Int, Ret (R N d 45 [.agg (encV x), .int .i64 z] []) (.int .i64 y) := by
  obtain ⟨d, rfl, g⟩ := up h
  rw [t45]; unfold b45
  obtain ⟨y, hy⟩ := r37 (N := N) g x.a x.b z x.s
  cases hc : decide (y < 0)
  · exact ⟨_, ret_pe rfl (ret_pk rfl (ret_pk rfl (ret_pq (call0_ret rfl hy) (ret_pk rfl (ret_if (fun h => by rw [hc] at h; cases h) (fun _ => ret_some rfl))))))⟩
  · exact ⟨_, ret_pe rfl (ret_pk rfl (ret_pk rfl (ret_pq (call0_ret rfl hy) (ret_pk rfl (ret_if (fun _ => ret_some rfl) (fun h => by rw [hc] at h; cases h))))))⟩
end Go.Proofs.Ytionojjamahhpaa
