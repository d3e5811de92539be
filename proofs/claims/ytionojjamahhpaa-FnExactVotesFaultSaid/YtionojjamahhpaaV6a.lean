/- Typed cells of a vote. -/
import Derived.Test.YtionojjamahhpaaV5
import Derived.Test.YtionojjamahhpaaRf22
namespace Go.Proofs.Ytionojjamahhpaa
open Go Go.Rf
theorem u2 : Try.prog.underlying 2 = some (.int .i64) := by kernel_rfl
theorem u9 : Try.prog.underlying 9 = some .string := by kernel_rfl
theorem u22 : Try.prog.underlying 22 = some (.slice 83) := by kernel_rfl
theorem u71 : structT Try.prog 71 = some [2, 2, 9] := by kernel_rfl
theorem u83 : structT Try.prog 83 = some [2, 71] := by kernel_rfl
set_option maxRecDepth 100000 in
theorem wtReply {n : Nat} {avs : List AV} (h : WT Try.prog (n + 2) 71 avs) : ∃ a b s, avs = [.int .i64 a, .int .i64 b, .str s] := by
  obtain ⟨x1, r1, rfl, h1, x2, r2, rfl, h2, x3, r3, rfl, h3, rfl⟩ := WT_struct u71 h
  obtain ⟨a, rfl, _⟩ := WT_int u2 h1
  obtain ⟨b, rfl, _⟩ := WT_int u2 h2
  obtain ⟨s, rfl, _⟩ := WT_string u9 h3
  exact ⟨a, b, s, rfl⟩
set_option maxRecDepth 100000 in
theorem wtVote {n : Nat} {avs : List AV} (h : WT Try.prog (n + 3) 83 avs) : ∃ x : Vt, avs = encV x := by
  obtain ⟨x1, r1, rfl, h1, x2, r2, rfl, h2, rfl⟩ := WT_struct u83 h
  obtain ⟨v, rfl, _⟩ := WT_int u2 h1
  obtain ⟨a, b, s, rfl⟩ := wtReply h2
  exact ⟨⟨v, a, b, s⟩, rfl⟩
set_option maxRecDepth 100000 in
theorem wtVotes {n : Nat} {avs : List AV} (h : WT Try.prog (n + 4) 22 avs) : ∃ xs : List Vt, avs = [.rsl false false (xs.map encV)] ∧ xs.length ≤ maxLen := by
  obtain ⟨es, rfl, hl, hes⟩ := WT_slice u22 h
  obtain ⟨xs, rfl⟩ := list_enc (enc := encV) es fun x hx => wtVote (hes x hx)
  exact ⟨xs, rfl, by simpa using hl⟩

end Go.Proofs.Ytionojjamahhpaa
