/- VotesFault: the small functions. -/
import Derived.Test.YtionojjamahhpaaT1
namespace Go.Proofs.Ytionojjamahhpaa
open Go Go.Rf
variable {N d : Nat}

theorem up {k d : Nat} (h : k + 1 ≤ d) : ∃ d', d = d' + 1 ∧ k ≤ d' := ⟨d - 1, by omega, by omega⟩
def inR (x lo hi : Int) : Bool := decide (lo ≤ x) && decide (x ≤ hi)

theorem r90 (h : 1 ≤ d) (x lo hi : Int) : Ret (R N d 90 [.int .i64 x, .int .i64 lo, .int .i64 hi] []) (.bool (inR x lo hi)) := by
  obtain ⟨d, rfl, _⟩ := up h
  rw [t90]; unfold b90
  refine ret_pk rfl (ret_gT (fun h => ret_pk rfl (ret_some ?_)) (fun h => ret_some ?_))
  · have : lo ≤ x := by simpa using h
    simp [inR, this, fzr, frz, scrub]
  · have : ¬ lo ≤ x := by simpa using h
    simp [inR, this, fzr, frz, scrub]
theorem r85 (h : 1 ≤ d) (x lo hi : Int) : Ret (R N d 85 [.int .i64 x, .int .i64 lo, .int .i64 hi] []) (.bool (inR x lo hi)) := by
  obtain ⟨d, rfl, _⟩ := up h
  rw [t85]; unfold b85
  refine ret_pk rfl (ret_gT (fun h => ret_pk rfl (ret_some ?_)) (fun h => ret_some ?_))
  · have : lo ≤ x := by simpa using h
    simp [inR, this, fzr, frz, scrub]
  · have : ¬ lo ≤ x := by simpa using h
    simp [inR, this, fzr, frz, scrub]
theorem r71 (h : 2 ≤ d) (x : Int) : Ret (R N d 71 [.int .i64 x] []) (.bool (inR x 1 2)) := by
  obtain ⟨d, rfl, g⟩ := up h
  rw [t71]; unfold b71
  exact ret_pq (call0_ret rfl (r90 g _ _ _)) (ret_some rfl)
theorem r48 (h : 2 ≤ d) (x : Int) : Ret (R N d 48 [.int .i64 x] []) (.bool (inR x 1 2)) := by
  obtain ⟨d, rfl, g⟩ := up h
  rw [t48]; unfold b48
  exact ret_pq (call0_ret rfl (r85 g _ _ _)) (ret_some rfl)
def many (f : Int) : Int := IntKind.i64.wrap (IntKind.i64.wrap (3 * f) + 1)
theorem r87 (h : 1 ≤ d) (x : Int) : Ret (R N d 87 [.int .i64 x] []) (.int .i64 (many x)) := by
  obtain ⟨d, rfl, _⟩ := up h
  rw [t87]; unfold b87
  exact ret_pk rfl (ret_pk rfl (ret_some rfl))
theorem r51 (h : 2 ≤ d) (f x : Int) : Ret (R N d 51 [.int .i64 f, .int .i64 x] []) (.bool (inR x 1 (many f))) := by
  obtain ⟨d, rfl, g⟩ := up h
  rw [t51]; unfold b51
  exact ret_pq (call0_ret rfl (r87 g _)) (ret_pq (call0_ret rfl (r85 g _ _ _)) (ret_some rfl))
theorem r83 (h : 2 ≤ d) (f x : Int) : Ret (R N d 83 [.int .i64 f, .int .i64 x] []) (.bool (inR x 1 (many f))) := by
  obtain ⟨d, rfl, g⟩ := up h
  rw [t83]; unfold b83
  exact ret_pk rfl (ret_pk rfl (ret_pq (call0_ret rfl (r90 g _ _ _)) (ret_some rfl)))
def repOk (a b : Int) (s : ByteArray) : Bool := inR a 0 10 && (inR b (-1) 9999 && decide ((s.size : Int) ≤ 24))
theorem r52 (h : 2 ≤ d) (a b : Int) (s : ByteArray) : Ret (R N d 52 [.agg [.int .i64 a, .int .i64 b, .str s]] []) (.bool (repOk a b s)) := by
  obtain ⟨d, rfl, g⟩ := up h
  rw [t52]; unfold b52
  refine ret_pe rfl (ret_pk rfl (ret_pk rfl (ret_pq (call0_ret rfl (r85 g _ _ _)) (ret_gT (fun h1 => ret_pk rfl (ret_pk rfl (ret_pq (call0_ret rfl (r85 g _ _ _)) (ret_gT (fun h2 => ret_pk rfl (ret_pk rfl (ret_pk rfl (ret_pk rfl (ret_some ?_))))) (fun h2 => ret_some ?_))))) (fun h1 => ret_some ?_)))))
  · simp only [repOk, h1, h2]; rfl
  · simp only [repOk, h1, h2]; rfl
  · simp only [repOk, h1]; rfl
theorem r84 (h : 2 ≤ d) (a b : Int) (s : ByteArray) (l : Bool) : Ret (R N d 84 [.rp l [.int .i64 a, .int .i64 b, .str s]] []) (.bool (repOk a b s)) := by
  obtain ⟨d, rfl, g⟩ := up h
  rw [t84]; unfold b84
  refine ret_pq rfl (ret_pk rfl (ret_pk rfl (ret_pq (call0_ret rfl (r90 g _ _ _)) (ret_gT (fun h1 => ret_pq rfl (ret_pk rfl (ret_pk rfl (ret_pq (call0_ret rfl (r90 g _ _ _)) (ret_gT (fun h2 => ret_pq rfl (ret_pk rfl (ret_pk rfl (ret_pk rfl (ret_pk rfl (ret_some ?_)))))) (fun h2 => ret_some ?_)))))) (fun h1 => ret_some ?_)))))
  · simp only [repOk, h1, h2]; rfl
  · simp only [repOk, h1, h2]; rfl
  · simp only [repOk, h1]; rfl
theorem r50 (h : 3 ≤ d) (f v a b : Int) (s : ByteArray) (l : Bool) : Ret (R N d 50 [.agg [.int .i64 v, .int .i64 a, .int .i64 b, .str s], .rp l [.int .i64 f]] []) (.bool (!(inR v 1 (many f)) || !(repOk a b s))) := by
  obtain ⟨d, rfl, g⟩ := up h
  rw [t50]; unfold b50
  refine ret_pe rfl (ret_pk rfl (ret_pk rfl (ret_pk rfl (ret_pq (call0_ret rfl (r51 g _ _)) (ret_pk rfl (ret_gF (fun h1 => ret_some ?_) (fun h1 => ret_pk rfl (ret_pk rfl (ret_pq (call0_ret rfl (r52 g _ _ _)) (ret_pk rfl (ret_some ?_)))))))))))
  · rw [h1]; rfl
  · rw [h1]; rfl
theorem r39 (h : 1 ≤ d) (a b : Int) (s : ByteArray) : Ret (R N d 39 [.agg [.int .i64 a, .int .i64 b, .str s]] []) (.agg [.int .i64 a, .int .i64 b, .str s]) := by
  obtain ⟨d, rfl, g⟩ := up h
  rw [t39]
  exact ⟨_, _, (by kernel_rfl : b39 (cfg N) (R N d) (.agg [.int .i64 a, .int .i64 b, .str s]) [] = some (.agg [.int .i64 a, .int .i64 b, .str s], [⟨3, [[.int .i64 a, .int .i64 b, .str s]], true⟩, ⟨3, [[.int .i64 a, .int .i64 b, .str s]], true⟩, ⟨3, [[.int .i64 a, .int .i64 b, .str s]], true⟩])), rfl⟩
end Go.Proofs.Ytionojjamahhpaa
