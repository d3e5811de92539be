/- What the evaluator makes of the functions; what they compute. -/
import Derived.Test.YtjandfmkelohdaaDoorProg
import Derived.KernelRfl
import Derived.Test.YtjandfmkelohdaaDoorRg2
import Derived.Test.YtjandfmkelohdaaDoorRh4
import Derived.Lib.Bytealg
import Derived.Test.YtjandfmkelohdaaDoorRh11
namespace Go.Proofs.YtjandfmkelohdaaDoor
open Go Go.Rf
set_option linter.unusedVariables false
noncomputable section
def cutT : List (Nat × List Nat) := [(3900001001, [2]), (4100001001, [2]), (1100004005, [3])]
def mdT : List (Nat × Nat) := []
@[irreducible] def NN : Nat := maxLen + 1
def cfg (N : Nat) : Cfg := { P := Tryd.prog, N := N, md := fun f g => lookM mdT (f * 10000 + g), cut := fun f k => lookT cutT (f * 100000000 + k), ext := fun f => if f = 87 then some extFI else none }
@[irreducible] noncomputable def R (N d : Nat) : FuncId → List AV → St → Option (AV × St) := arun (cfg N) d
def b8 (C : Cfg) (run : RunT) (a0 a1 : AV) (S : St) : OA :=
  pe (boxA a0 S) fun r1 S1 =>
  pk (pfield r1 2 1) S1 fun r2 =>
  pk (ld1 S1 r2) S1 fun r3 =>
  pk (slen r3) S1 fun r4 =>
  pk (bin2 Tryd.prog .sub 3 a1 r4) S1 fun r5 =>
  pk (abin Tryd.prog .lss 3 r5 (AV.int .i64 0)) S1 fun r6 =>
  ifA r6
  (some (AV.int .i64 (-1), S1))
  (some (r5, S1))
theorem t8 (N d : Nat) (a0 a1 : AV) (S : St) : R N (d + 1) 8 [a0, a1] S = b8 (cfg N) (R N d) a0 a1 S := by unfold R; kernel_rfl
def b84 (C : Cfg) (run : RunT) (a0 a1 a2 : AV) (S : St) : OA :=
  pk (bin2 Tryd.prog .geq 2 a0 a1) S fun r1 =>
  guardA r1 true
  (pk (bin2 Tryd.prog .leq 2 a0 a2) S fun r2 =>
  some (r2, S))
  (some (AV.bool false, S))
theorem t84 (N d : Nat) (a0 a1 a2 : AV) (S : St) : R N (d + 1) 84 [a0, a1, a2] S = b84 (cfg N) (R N d) a0 a1 a2 S := by unfold R; kernel_rfl
def b39 (C : Cfg) (run : RunT) (a0 : AV) (S : St) : OA :=
  (pq (nilA a0 S) fun r1 =>
  pk (pfield r1 0 1) S fun r2 =>
  pk (ld1 S r2) S fun r3 =>
  pq (call0 run 84 [r3, AV.int .i64 0, AV.int .i64 10] S) fun r4 =>
  guardA r4 true
  (pq (nilA a0 S) fun r5 =>
  pk (pfield r5 1 1) S fun r6 =>
  pk (ld1 S r6) S fun r7 =>
  pq (call0 run 84 [r7, AV.int .i64 (-1), AV.int .i64 9999] S) fun r8 =>
  guardA r8 true
  (pq (nilA a0 S) fun r9 =>
  pk (pfield r9 2 1) S fun r10 =>
  pk (ld1 S r10) S fun r11 =>
  pk (slen r11) S fun r12 =>
  pk (abin Tryd.prog .leq 3 r12 (AV.int .i64 24)) S fun r13 =>
  some (AOut.norm [r13] S))
  (some (AOut.norm [AV.bool false] S)))
  (some (AOut.norm [AV.bool false] S))).bind fun
  | AOut.norm l14 S14 => (some ((gd l14 0), S14))
  | AOut.exit x14 l14 S14 => (none)
  | AOut.ret l14 S14 => (some ((gd l14 0), S14))
theorem t39 (N d : Nat) (a0 : AV) (S : St) : R N (d + 1) 39 [a0] S = b39 (cfg N) (R N d) a0 S := by unfold R; kernel_rfl
def b85 (C : Cfg) (run : RunT) (a0 : AV) (S : St) : OA :=
  pk (abin Tryd.prog .lss 2 a0 (AV.int .i64 0)) S fun r1 =>
  ifA r1
  (pk (aun .neg a0) S fun r2 =>
  pq (call0 run 85 [r2] S) fun r3 =>
  pk (abin Tryd.prog .add 9 (AV.str ⟨#[45]⟩) r3) S fun r4 =>
  some (r4, S))
  (pk (abin Tryd.prog .lss 2 a0 (AV.int .i64 10)) S fun r5 =>
  ifA r5
  (pk (abin Tryd.prog .add 2 (AV.int .i64 48) a0) S fun r6 =>
  pk (aconv Tryd.prog 2 5 r6 S) S fun r7 =>
  pq (quietS (abuildS Tryd.prog 46 1 [(0, r7)] S) S) fun r8 =>
  pk (aconv Tryd.prog 46 9 r8 S) S fun r9 =>
  some (r9, S))
  (pk (abin Tryd.prog .quo 2 a0 (AV.int .i64 10)) S fun r10 =>
  pq (call0 run 85 [r10] S) fun r11 =>
  pk (abin Tryd.prog .rem 2 a0 (AV.int .i64 10)) S fun r12 =>
  pk (abin Tryd.prog .add 2 (AV.int .i64 48) r12) S fun r13 =>
  pk (aconv Tryd.prog 2 5 r13 S) S fun r14 =>
  pq (quietS (abuildS Tryd.prog 46 1 [(0, r14)] S) S) fun r15 =>
  pk (aconv Tryd.prog 46 9 r15 S) S fun r16 =>
  pk (bin2 Tryd.prog .add 9 r11 r16) S fun r17 =>
  some (r17, S)))
theorem t85 (N d : Nat) (a0 : AV) (S : St) : R N (d + 1) 85 [a0] S = b85 (cfg N) (R N d) a0 S := by unfold R; kernel_rfl
def b40 (C : Cfg) (run : RunT) (a0 : AV) (S : St) : OA :=
  pq (nilA a0 S) fun r1 =>
  pk (pfield r1 0 1) S fun r2 =>
  pk (ld1 S r2) S fun r3 =>
  pq (call0 run 85 [r3] S) fun r4 =>
  pk (abin Tryd.prog .add 9 (AV.str ⟨#[99, 111, 100, 101, 32]⟩) r4) S fun r5 =>
  pk (abin Tryd.prog .add 9 r5 (AV.str ⟨#[32]⟩)) S fun r6 =>
  pq (nilA a0 S) fun r7 =>
  pk (pfield r7 1 1) S fun r8 =>
  pk (ld1 S r8) S fun r9 =>
  pq (call0 run 85 [r9] S) fun r10 =>
  pk (bin2 Tryd.prog .add 9 r6 r10) S fun r11 =>
  pq (nilA a0 S) fun r12 =>
  pk (pfield r12 2 1) S fun r13 =>
  pk (ld1 S r13) S fun r14 =>
  pk (abin Tryd.prog .neq 9 r14 (AV.str ⟨#[]⟩)) S fun r15 =>
  ifA r15
  (pk (abin Tryd.prog .add 9 r11 (AV.str ⟨#[32]⟩)) S fun r16 =>
  pq (nilA a0 S) fun r17 =>
  pk (pfield r17 2 1) S fun r18 =>
  pk (ld1 S r18) S fun r19 =>
  pk (bin2 Tryd.prog .add 9 r16 r19) S fun r20 =>
  some (r20, S))
  (some (r11, S))
theorem t40 (N d : Nat) (a0 : AV) (S : St) : R N (d + 1) 40 [a0] S = b40 (cfg N) (R N d) a0 S := by unfold R; kernel_rfl
def b9 (C : Cfg) (run : RunT) (a0 : AV) (S : St) : OA :=
  pe (boxA a0 S) fun r1 S1 =>
  pe (some (newBox S1 [AV.int .i64 0, AV.str ⟨#[]⟩])) fun r2 S2 =>
  pq (call0 run 39 [r1] S2) fun r3 =>
  pk (aun .not r3) S2 fun r4 =>
  ifA r4
  (pk (abuild Tryd.prog 26 [(0, AV.int .i64 3)]) S2 fun r5 =>
  pe (storeA 2 r2 r5 S2) fun r6 S6 =>
  (ldA S6 r2 2).map (·, S6))
  (pq (call0 run 40 [r1] S2) fun r7 =>
  pk (abuild Tryd.prog 26 [(1, r7)]) S2 fun r8 =>
  pe (storeA 2 r2 r8 S2) fun r9 S9 =>
  (ldA S9 r2 2).map (·, S9))
theorem t9 (N d : Nat) (a0 : AV) (S : St) : R N (d + 1) 9 [a0] S = b9 (cfg N) (R N d) a0 S := by unfold R; kernel_rfl
def b10 (C : Cfg) (run : RunT) (a0 : AV) (S : St) : OA :=
  pe (boxA a0 S) fun r1 S1 =>
  pe (some (newBox S1 [AV.int .i64 0, AV.int .i64 0, AV.str ⟨#[]⟩])) fun r2 S2 =>
  pe (some (newBox S2 [AV.int .i64 0, AV.int .i64 0, AV.str ⟨#[]⟩])) fun r3 S3 =>
  pk (pfield r1 0 1) S3 fun r4 =>
  pk (ld1 S3 r4) S3 fun r5 =>
  pk (pfield r3 0 1) S3 fun r6 =>
  pe (storeA 1 r6 r5 S3) fun r7 S7 =>
  pk (pfield r1 1 1) S7 fun r8 =>
  pk (ld1 S7 r8) S7 fun r9 =>
  pk (pfield r3 1 1) S7 fun r10 =>
  pe (storeA 1 r10 r9 S7) fun r11 S11 =>
  pk (pfield r1 2 1) S11 fun r12 =>
  pk (ld1 S11 r12) S11 fun r13 =>
  pk (pfield r3 2 1) S11 fun r14 =>
  pe (storeA 1 r14 r13 S11) fun r15 S15 =>
  pk (ldA S15 r3 3) S15 fun r16 =>
  pe (storeA 3 r2 r16 S15) fun r17 S17 =>
  (ldA S17 r2 3).map (·, S17)
theorem t10 (N d : Nat) (a0 : AV) (S : St) : R N (d + 1) 10 [a0] S = b10 (cfg N) (R N d) a0 S := by unfold R; kernel_rfl
def b86 (C : Cfg) (run : RunT) (a0 a1 a2 : AV) (S : St) : OA :=
  pk (bin2 Tryd.prog .leq 2 a1 a0) S fun r1 =>
  guardA r1 true
  (pk (bin2 Tryd.prog .leq 2 a0 a2) S fun r2 =>
  some (r2, S))
  (some (AV.bool false, S))
theorem t86 (N d : Nat) (a0 a1 a2 : AV) (S : St) : R N (d + 1) 86 [a0, a1, a2] S = b86 (cfg N) (R N d) a0 a1 a2 S := by unfold R; kernel_rfl
def b41 (C : Cfg) (run : RunT) (a0 : AV) (S : St) : OA :=
  pe (boxA a0 S) fun r1 S1 =>
  (pk (pfield r1 0 1) S1 fun r2 =>
  pk (ld1 S1 r2) S1 fun r3 =>
  pq (call0 run 86 [r3, AV.int .i64 0, AV.int .i64 10] S1) fun r4 =>
  guardA r4 true
  (pk (pfield r1 1 1) S1 fun r5 =>
  pk (ld1 S1 r5) S1 fun r6 =>
  pq (call0 run 86 [r6, AV.int .i64 (-1), AV.int .i64 9999] S1) fun r7 =>
  guardA r7 true
  (pk (pfield r1 2 1) S1 fun r8 =>
  pk (ld1 S1 r8) S1 fun r9 =>
  pk (slen r9) S1 fun r10 =>
  pk (abin Tryd.prog .leq 3 r10 (AV.int .i64 24)) S1 fun r11 =>
  some (AOut.norm [r11] S1))
  (some (AOut.norm [AV.bool false] S1)))
  (some (AOut.norm [AV.bool false] S1))).bind fun
  | AOut.norm l12 S12 => (some ((gd l12 0), S12))
  | AOut.exit x12 l12 S12 => (none)
  | AOut.ret l12 S12 => (some ((gd l12 0), S12))
theorem t41 (N d : Nat) (a0 : AV) (S : St) : R N (d + 1) 41 [a0] S = b41 (cfg N) (R N d) a0 S := by unfold R; kernel_rfl
theorem t87 (N d : Nat) (a0 a1 : AV) (S : St) : R N (d + 1) 87 [a0, a1] S = extFI [a0, a1] S := by unfold R; kernel_rfl
def b42 (C : Cfg) (run : RunT) (a0 : AV) (S : St) : OA :=
  pq (call0 run 87 [a0, AV.int .i64 10] S) fun r1 =>
  some (r1, S)
theorem t42 (N d : Nat) (a0 : AV) (S : St) : R N (d + 1) 42 [a0] S = b42 (cfg N) (R N d) a0 S := by unfold R; kernel_rfl
def b11 (C : Cfg) (run : RunT) (a0 : AV) (S : St) : OA :=
  pe (boxA a0 S) fun r1 S1 =>
  pe (some (newBox S1 [AV.int .i64 0, AV.str ⟨#[]⟩])) fun r2 S2 =>
  pk (ldA S2 r1 3) S2 fun r3 =>
  pq (call0 run 41 [r3] S2) fun r4 =>
  pk (aun .not r4) S2 fun r5 =>
  ifA r5
  (pk (abuild Tryd.prog 26 [(0, AV.int .i64 3)]) S2 fun r6 =>
  pe (storeA 2 r2 r6 S2) fun r7 S7 =>
  (ldA S7 r2 2).map (·, S7))
  (pk (pfield r1 0 1) S2 fun r8 =>
  pk (ld1 S2 r8) S2 fun r9 =>
  pq (call0 run 42 [r9] S2) fun r10 =>
  pk (abin Tryd.prog .add 9 (AV.str ⟨#[99, 111, 100, 101, 32]⟩) r10) S2 fun r11 =>
  pk (abin Tryd.prog .add 9 r11 (AV.str ⟨#[32]⟩)) S2 fun r12 =>
  pk (pfield r1 1 1) S2 fun r13 =>
  pk (ld1 S2 r13) S2 fun r14 =>
  pq (call0 run 42 [r14] S2) fun r15 =>
  pk (bin2 Tryd.prog .add 9 r12 r15) S2 fun r16 =>
  (pk (pfield r1 2 1) S2 fun r17 =>
  pk (ld1 S2 r17) S2 fun r18 =>
  pk (abin Tryd.prog .neq 9 r18 (AV.str ⟨#[]⟩)) S2 fun r19 =>
  ifA r19
  (pk (pfield r1 2 1) S2 fun r20 =>
  pk (ld1 S2 r20) S2 fun r21 =>
  pk (abin Tryd.prog .add 9 (AV.str ⟨#[32]⟩) r21) S2 fun r22 =>
  pk (bin2 Tryd.prog .add 9 r16 r22) S2 fun r23 =>
  some (AOut.norm [r23] S2))
  (some (AOut.norm [r16] S2))).bind fun
  | AOut.norm l24 S24 => (pk (abuild Tryd.prog 26 [(1, (gd l24 0))]) S24 fun r25 =>
  pe (storeA 2 r2 r25 S24) fun r26 S26 =>
  (ldA S26 r2 2).map (·, S26))
  | AOut.exit x24 l24 S24 => (none)
  | AOut.ret l24 S24 => ((ldA S24 r2 2).map (·, S24)))
theorem t11 (N d : Nat) (a0 : AV) (S : St) : R N (d + 1) 11 [a0] S = b11 (cfg N) (R N d) a0 S := by unfold R; kernel_rfl
def b12 (C : Cfg) (run : RunT) (a0 a1 : AV) (S : St) : OA :=
  pe (boxA a0 S) fun r1 S1 =>
  pe (boxA a1 S1) fun r2 S2 =>
  pk (pfield r1 0 1) S2 fun r3 =>
  pk (ld1 S2 r3) S2 fun r4 =>
  pk (pfield r2 0 1) S2 fun r5 =>
  pk (ld1 S2 r5) S2 fun r6 =>
  pk (bin2 Tryd.prog .neq 2 r4 r6) S2 fun r7 =>
  ifA r7
  (some (AV.bool false, S2))
  (pk (pfield r1 1 1) S2 fun r8 =>
  pk (ld1 S2 r8) S2 fun r9 =>
  pk (pfield r2 1 1) S2 fun r10 =>
  pk (ld1 S2 r10) S2 fun r11 =>
  pk (bin2 Tryd.prog .neq 9 r9 r11) S2 fun r12 =>
  ifA r12
  (some (AV.bool false, S2))
  (some (AV.bool true, S2)))
theorem t12 (N d : Nat) (a0 a1 : AV) (S : St) : R N (d + 1) 12 [a0, a1] S = b12 (cfg N) (R N d) a0 a1 S := by unfold R; kernel_rfl
def b3 (C : Cfg) (run : RunT) (a0 : AV) (S : St) : OA :=
  pe (boxA a0 S) fun r1 S1 =>
  pk (ldA S1 r1 3) S1 fun r2 =>
  pq (call0 run 8 [r2, AV.int .i64 1048576] S1) fun r3 =>
  pk (abin Tryd.prog .lss 3 r3 (AV.int .i64 0)) S1 fun r4 =>
  ifA r4
  (some (AV.bool true, S1))
  (pk (ldA S1 r1 3) S1 fun r5 =>
  pq (call0 run 10 [r5] S1) fun r6 =>
  pq (call0 run 9 [r6] S1) fun r7 =>
  pe (some (newBox S1 [AV.int .i64 0, AV.str ⟨#[]⟩])) fun r8 S8 =>
  pe (storeA 2 r8 r7 S8) fun r9 S9 =>
  pk (ldA S9 r1 3) S9 fun r10 =>
  pq (call0 run 10 [r10] S9) fun r11 =>
  pq (call0 run 11 [r11] S9) fun r12 =>
  pe (some (newBox S9 [AV.int .i64 0, AV.str ⟨#[]⟩])) fun r13 S13 =>
  pe (storeA 2 r13 r12 S13) fun r14 S14 =>
  pk (ldA S14 r13 2) S14 fun r15 =>
  pk (ldA S14 r8 2) S14 fun r16 =>
  pq (call0 run 12 [r15, r16] S14) fun r17 =>
  pk (aun .not r17) S14 fun r18 =>
  ifA r18
  (some (AV.bool false, S14))
  (some (AV.bool true, S14)))
theorem t3 (N d : Nat) (a0 : AV) (S : St) : R N (d + 1) 3 [a0] S = b3 (cfg N) (R N d) a0 S := by unfold R; kernel_rfl
end
end Go.Proofs.YtjandfmkelohdaaDoor
