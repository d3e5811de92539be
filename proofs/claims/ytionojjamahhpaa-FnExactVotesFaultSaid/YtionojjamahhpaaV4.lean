/- VotesFault: copies, comparison, sizes; the law. -/
import Derived.Test.YtionojjamahhpaaV3
import Derived.Test.YtionojjamahhpaaRf22
namespace Go.Proofs.Ytionojjamahhpaa
open Go Go.Rf
variable {N d : Nat}

theorem r47 (h : 2 ≤ d) (x : Vt) : Ret (R N d 47 [.agg (encV x)] []) (.agg (encV x)) := by
  obtain ⟨d, rfl, g⟩ := up h
  rw [t47]; unfold b47
  exact ret_pe rfl (ret_pe rfl (ret_pe rfl (ret_pk rfl (ret_pk rfl (ret_pk rfl (ret_pe rfl (ret_pk rfl (ret_pk rfl (ret_pq (call0_ret rfl (r39 g _ _ _)) (ret_pk rfl (ret_pe rfl (ret_pk rfl (ret_pe rfl (ret_map rfl rfl))))))))))))))

def Z4 : List AV := [.int .i64 0, .int .i64 0, .int .i64 0, .str ⟨#[]⟩]
theorem amk25 {n : Nat} (h : n ≤ 1048576) : amake Try.prog 25 (.int .i64 n) (.int .i64 n) [] = some (.bsl 0 0 n n true, [⟨4, List.replicate n Z4, true⟩]) :=
  amake_ok (e := 85) (sz := 4) (by_ := 40) (z := Z4) (by kernel_rfl) (by kernel_rfl) (by kernel_rfl) rfl (by omega) rfl (by omega)

theorem r10 (h : 3 ≤ d) (l fl : Bool) (xs : List Vt) (hN : 1048576 < N) (hx : xs.length ≤ 1048576) : Ret (R N d 10 [.rsl l fl (xs.map encV)] []) (.rsl false true (xs.map encV)) := by
  obtain ⟨d, rfl, g⟩ := up h
  rw [t10]; unfold b10
  have hal : alen (.rsl l fl (xs.map encV)) = some (.int .i64 xs.length) := by simp [alen]
  obtain ⟨o, ho, hr⟩ := aloop_rel (xs := xs) (step := s10_0 (cfg N) (R N d) (.rsl l fl (xs.map encV)) (.bsl 0 0 xs.length xs.length true)) (fun i (_ : Unit) => [.int .i64 i]) (fun i _ => [⟨4, (xs.take i).map encV ++ List.replicate (xs.length - i) Z4, true⟩]) (fun _ _ => Sum.inl ()) (fun _ => ())
      (fun o _ => ∃ l, o = .exit 0 l [⟨4, xs.map encV, true⟩])
      (fun i x s hxi => by
        have hlt : i < xs.length := (List.getElem?_eq_some_iff.1 hxi).1
        refine ⟨fun s' hs => ?_, fun b hs => by cases hs⟩
        unfold s10_0
        refine pk_to hal (pk_to rfl (ifA_to (fun _ => ?_) (fun h => ?_)))
        · refine pk_to (pindex_at rfl (enc_at hxi) rfl) (pk_to rfl (pq_to (call0_ret rfl (r47 g x)) (pk_to (pindex_box rfl hlt rfl rfl) (pe_to (storeA_box rfl (fill_len (by omega)) (by rw [Nat.zero_add]; exact fill_get hlt) rfl (by omega) rfl) (pk_to rfl ?_)))))
          show some (AOut.norm [.int .i64 (IntKind.i64.wrap ((i : Int) + 1))] _) = _
          rw [w64 (by omega) (by omega)]
          simp only [List.set_cons_zero, Nat.zero_add]
          rw [show cellsA (.agg (encV x)) = encV x from rfl, set_fill hxi]
          rfl
        · have := dec_false h
          omega)
      (fun s => ⟨.exit 0 [.int .i64 xs.length] [⟨4, xs.map encV, true⟩], by
        unfold s10_0
        refine pk_to hal (pk_to rfl (ifA_to (fun h => ?_) (fun _ => ?_)))
        · simp at h
        · simp, rfl, _, rfl⟩) (cfg N).N (by rw [cfgN]; omega) ()
  obtain ⟨l', rfl⟩ := hr
  have ho' : aloop (s10_0 (cfg N) (R N d) (.rsl l fl (xs.map encV)) (.bsl 0 0 xs.length xs.length true)) (cfg N).N [.int .i64 0] [⟨4, List.replicate xs.length Z4, true⟩] = some (.exit 0 l' [⟨4, xs.map encV, true⟩]) := by simpa using ho
  refine ret_pk hal (ret_pe (amk25 hx) (ret_bind ho' (ret_some ?_)))
  simp [fzr, frz, scrub, List.take_of_length_le]

theorem r12 (h : 3 ≤ d) (l fl l2 fl2 : Bool) (xs : List Vt) (hN : 1048576 < N) (hx : xs.length ≤ 1048576) : Ret (R N d 12 [.rsl l fl (xs.map encV), .rsl l2 fl2 (xs.map encV)] []) (.bool true) := by
  obtain ⟨d, rfl, g⟩ := up h
  rw [t12]; unfold b12
  obtain ⟨o, ho, hr⟩ := aloop_rel (xs := xs) (step := s12_0 (cfg N) (R N d) (.rsl l fl (xs.map encV)) (.rsl l2 fl2 (xs.map encV))) (fun i (_ : Unit) => [.bool false, .int .i64 i]) (fun i _ => []) (fun _ _ => Sum.inl ()) (fun _ => ())
      (fun o _ => ∃ l S, o = .exit 0 l S)
      (fun i x s hxi => by
        have hlt : i < xs.length := (List.getElem?_eq_some_iff.1 hxi).1
        refine ⟨fun s' hs => ?_, fun b hs => by cases hs⟩
        unfold s12_0
        refine pk_to rfl (pk_to rfl (ifA_to (fun _ => ?_) (fun h => ?_)))
        · refine pk_to (pindex_at rfl (enc_at hxi) rfl) (pk_to rfl (pk_to (pindex_at rfl (enc_at hxi) rfl) (pk_to rfl (pq_to (call0_ret rfl (r53 g x)) (pk_to rfl (ifA_to (fun h => ?_) (fun _ => pk_to rfl ?_)))))))
          · cases h
          · show some (AOut.norm [.bool false, .int .i64 (IntKind.i64.wrap ((i : Int) + 1))] _) = _
            rw [w64 (by omega) (by omega)]
            rfl
        · have := dec_false h
          rw [List.length_map] at this; omega)
      (fun s => ⟨.exit 0 [.bool false, .int .i64 xs.length] [], by
        unfold s12_0
        refine pk_to rfl (pk_to rfl (ifA_to (fun h => ?_) (fun _ => rfl)))
        simp at h, rfl, _, _, rfl⟩) (cfg N).N (by rw [cfgN]; omega) ()
  obtain ⟨l', S', rfl⟩ := hr
  refine ret_pk rfl (ret_pk rfl (ret_pk rfl (ret_if (fun h => ?_) (fun _ => ret_bind ho (ret_some rfl)))))
  simp at h
end Go.Proofs.Ytionojjamahhpaa
