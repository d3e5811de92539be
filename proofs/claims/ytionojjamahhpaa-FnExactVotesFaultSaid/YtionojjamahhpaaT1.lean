/- What the evaluator makes of the functions. -/
import Derived.Test.YtionojjamahhpaaProg
import Derived.KernelRfl
import Derived.Test.YtionojjamahhpaaRf21
namespace Go.Proofs.Ytionojjamahhpaa
open Go Go.Rf
def cutT : List (Nat × List Nat) := [(810005006, [1, 4, 5]), (1010003004, [4]), (1210004005, [4, 5]), (4600008009, [4]), (4610006007, [4, 5]), (8610002006, [4, 8])]
def mdT : List (Nat × Nat) := []
noncomputable def cfg (N : Nat) : Cfg := { P := Try.prog, N := N, md := fun f g => lookM mdT (f * 10000 + g), cut := fun f k => lookT cutT (f * 100000000 + k), ext := fun _ => none }
@[irreducible] noncomputable def R (N d : Nat) : FuncId → List AV → St → Option (AV × St) := arun (cfg N) d
theorem cfgN (N : Nat) : (cfg N).N = N := rfl
noncomputable def b3 (C : Cfg) (run : FuncId → List AV → St → Option (AV × St)) (a0 a1 : AV) (S : St) : Option (AV × St) :=
  pq (call0 run 8 [a1, AV.int .i64 1048576] S) fun r1 =>
  pk (abin Try.prog .lss 3 r1 (AV.int .i64 0)) S fun r2 =>
  ifA r2
  (some (AV.bool true, S))
  (pq (call0 run 10 [a1] S) fun r3 =>
  pq (call0 run 9 [a0, r3] S) fun r4 =>
  pq (call0 run 10 [a1] S) fun r5 =>
  pq (call0 run 11 [a0, r5] S) fun r6 =>
  pk (bin2 Try.prog .neq 2 r6 r4) S fun r7 =>
  ifA r7
  (some (AV.bool false, S))
  (pq (call0 run 10 [a1] S) fun r8 =>
  pq (call0 run 12 [r5, r8] S) fun r9 =>
  pk (aun .not r9) S fun r10 =>
  ifA r10
  (some (AV.bool false, S))
  (some (AV.bool true, S))))
theorem t3 (N d : Nat) (a0 a1 : AV) (S : St) : R N (d + 1) 3 [a0, a1] S = b3 (cfg N) (R N d) a0 a1 S := by unfold R; kernel_rfl
noncomputable def s8_0 (C : Cfg) (run : FuncId → List AV → St → Option (AV × St)) (a0 : AV) (l : List AV) (S : St) : Option AOut :=
  pk (alen a0) S fun r4 =>
  pk (bin2 Try.prog .lss 3 ((l.getD 2 .non)) r4) S fun r5 =>
  ifA r5
  (pk (pindex 4 a0 ((l.getD 2 .non)) S) S fun r6 =>
  pk (ldA S r6 4) S fun r7 =>
  pq (call0 run 45 [r7, (l.getD 0 .non)] S) fun r8 =>
  pk (abin Try.prog .lss 3 r8 (AV.int .i64 0)) S fun r9 =>
  ifA r9
  (some (AOut.ret [r8, AV.int .i64 (-1), (l.getD 2 .non)] S))
  (pk (abin Try.prog .add 3 ((l.getD 2 .non)) (AV.int .i64 1)) S fun r10 =>
  some (AOut.norm [r8, (l.getD 1 .non), r10] S)))
  (some (AOut.exit 0 [(l.getD 0 .non), (l.getD 1 .non), (l.getD 2 .non)] S))
noncomputable def b8 (C : Cfg) (run : FuncId → List AV → St → Option (AV × St)) (a0 a1 : AV) (S : St) : Option (AV × St) :=
  pk (alen a0) S fun r1 =>
  pk (bin2 Try.prog .sub 3 a1 r1) S fun r2 =>
  pk (abin Try.prog .lss 3 r2 (AV.int .i64 0)) S fun r3 =>
  ifA r3
  (some (AV.int .i64 (-1), S))
  ((aloop (s8_0 C run a0) C.N [r2, AV.int .i64 0, AV.int .i64 0] S).bind fun
  | AOut.norm _ _ => none
  | AOut.exit x11 l11 S11 => if x11 = 0 then some ((l11.getD 0 .non), S11) else none
  | AOut.ret l11 S11 => some ((l11.getD 1 .non), S11))
theorem t8 (N d : Nat) (a0 a1 : AV) (S : St) : R N (d + 1) 8 [a0, a1] S = b8 (cfg N) (R N d) a0 a1 S := by unfold R; kernel_rfl
noncomputable def b9 (C : Cfg) (run : FuncId → List AV → St → Option (AV × St)) (a0 a1 : AV) (S : St) : Option (AV × St) :=
  pq (call0 run 46 [a0, a1] S) fun r1 =>
  some (r1, S)
theorem t9 (N d : Nat) (a0 a1 : AV) (S : St) : R N (d + 1) 9 [a0, a1] S = b9 (cfg N) (R N d) a0 a1 S := by unfold R; kernel_rfl
noncomputable def s10_0 (C : Cfg) (run : FuncId → List AV → St → Option (AV × St)) (a0 : AV) (r2 : AV) (l : List AV) (S : St) : Option AOut :=
  pk (alen a0) S fun r3 =>
  pk (bin2 Try.prog .lss 3 ((l.getD 0 .non)) r3) S fun r4 =>
  ifA r4
  (pk (pindex 4 a0 ((l.getD 0 .non)) S) S fun r5 =>
  pk (ldA S r5 4) S fun r6 =>
  pq (call0 run 47 [r6] S) fun r7 =>
  pk (pindex 4 r2 ((l.getD 0 .non)) S) S fun r8 =>
  pe (storeA 4 r8 r7 S) fun r9 S9 =>
  pk (abin Try.prog .add 3 ((l.getD 0 .non)) (AV.int .i64 1)) S9 fun r10 =>
  some (AOut.norm [r10] S9))
  (some (AOut.exit 0 [(l.getD 0 .non)] S))
noncomputable def b10 (C : Cfg) (run : FuncId → List AV → St → Option (AV × St)) (a0 : AV) (S : St) : Option (AV × St) :=
  pk (alen a0) S fun r1 =>
  pe (amake Try.prog 25 r1 r1 S) fun r2 S2 =>
  (aloop (s10_0 C run a0 r2) C.N [AV.int .i64 0] S2).bind fun
  | AOut.norm _ _ => none
  | AOut.exit x11 l11 S11 => if x11 = 0 then some (r2, S11) else none
  | AOut.ret l11 S11 => some (AV.rsl false true [], S11)
theorem t10 (N d : Nat) (a0 : AV) (S : St) : R N (d + 1) 10 [a0] S = b10 (cfg N) (R N d) a0 S := by unfold R; kernel_rfl
noncomputable def b11 (C : Cfg) (run : FuncId → List AV → St → Option (AV × St)) (a0 a1 : AV) (S : St) : Option (AV × St) :=
  pe (boxA a0 S) fun r1 S1 =>
  pk (ld1 S1 r1) S1 fun r2 =>
  pq (call0 run 48 [r2] S1) fun r3 =>
  pk (aun .not r3) S1 fun r4 =>
  ifA r4
  (some (AV.int .i64 3, S1))
  (pk (alen a1) S1 fun r5 =>
  pk (abin Try.prog .gtr 3 r5 (AV.int .i64 40)) S1 fun r6 =>
  ifA r6
  (some (AV.int .i64 2, S1))
  (pq (call0 run 49 [a1, AV.fn 50 [r1]] S1) fun r7 =>
  ifA r7
  (some (AV.int .i64 3, S1))
  (some (AV.int .i64 0, S1))))
theorem t11 (N d : Nat) (a0 a1 : AV) (S : St) : R N (d + 1) 11 [a0, a1] S = b11 (cfg N) (R N d) a0 a1 S := by unfold R; kernel_rfl
noncomputable def s12_0 (C : Cfg) (run : FuncId → List AV → St → Option (AV × St)) (a0 : AV) (a1 : AV) (l : List AV) (S : St) : Option AOut :=
  pk (alen a0) S fun r4 =>
  pk (bin2 Try.prog .lss 3 ((l.getD 1 .non)) r4) S fun r5 =>
  ifA r5
  (pk (pindex 4 a0 ((l.getD 1 .non)) S) S fun r6 =>
  pk (ldA S r6 4) S fun r7 =>
  pk (pindex 4 a1 ((l.getD 1 .non)) S) S fun r8 =>
  pk (ldA S r8 4) S fun r9 =>
  pq (call0 run 53 [r7, r9] S) fun r10 =>
  pk (aun .not r10) S fun r11 =>
  ifA r11
  (some (AOut.ret [AV.bool false, (l.getD 1 .non)] S))
  (pk (abin Try.prog .add 3 ((l.getD 1 .non)) (AV.int .i64 1)) S fun r12 =>
  some (AOut.norm [(l.getD 0 .non), r12] S)))
  (some (AOut.exit 0 [(l.getD 0 .non), (l.getD 1 .non)] S))
noncomputable def b12 (C : Cfg) (run : FuncId → List AV → St → Option (AV × St)) (a0 a1 : AV) (S : St) : Option (AV × St) :=
  pk (alen a0) S fun r1 =>
  pk (alen a1) S fun r2 =>
  pk (bin2 Try.prog .neq 3 r1 r2) S fun r3 =>
  ifA r3
  (some (AV.bool false, S))
  ((aloop (s12_0 C run a0 a1) C.N [AV.bool false, AV.int .i64 0] S).bind fun
  | AOut.norm _ _ => none
  | AOut.exit x13 l13 S13 => if x13 = 0 then some (AV.bool true, S13) else none
  | AOut.ret l13 S13 => some ((l13.getD 0 .non), S13))
theorem t12 (N d : Nat) (a0 a1 : AV) (S : St) : R N (d + 1) 12 [a0, a1] S = b12 (cfg N) (R N d) a0 a1 S := by unfold R; kernel_rfl
noncomputable def b37 (C : Cfg) (run : FuncId → List AV → St → Option (AV × St)) (a0 a1 : AV) (S : St) : Option (AV × St) :=
  pe (boxA a0 S) fun r1 S1 =>
  pk (pfield r1 2 1) S1 fun r2 =>
  pk (ld1 S1 r2) S1 fun r3 =>
  pk (slen r3) S1 fun r4 =>
  pk (bin2 Try.prog .sub 3 a1 r4) S1 fun r5 =>
  pk (abin Try.prog .lss 3 r5 (AV.int .i64 0)) S1 fun r6 =>
  ifA r6
  (some (AV.int .i64 (-1), S1))
  (some (r5, S1))
theorem t37 (N d : Nat) (a0 a1 : AV) (S : St) : R N (d + 1) 37 [a0, a1] S = b37 (cfg N) (R N d) a0 a1 S := by unfold R; kernel_rfl
noncomputable def b39 (C : Cfg) (run : FuncId → List AV → St → Option (AV × St)) (a0 : AV) (S : St) : Option (AV × St) :=
  pe (boxA a0 S) fun r1 S1 =>
  pe (some (newBox S1 [AV.int .i64 0, AV.int .i64 0, AV.str ⟨#[]⟩])) fun r2 S2 =>
  pe (some (newBox S2 [AV.int .i64 0, AV.int .i64 0, AV.str ⟨#[]⟩])) fun r3 S3 =>
  pk (pfield r1 0 1) S3 fun r4 =>
  pk (ld1 S3 r4) S3 fun r5 =>
  pk (pfield r3 0 1) S3 fun r6 =>
  pe (storeA 1 r6 r5 S3) fun r7 S7 =>
  pk (pfield r1 1 1) S7 fun r8 =>
  pk (ld1 S7 r8) S7 fun r9 =>
  pk (pfield r3 1 1) S7 fun r10 =>
  pe (storeA 1 r10 r9 S7) fun r11 S11 =>
  pk (pfield r1 2 1) S11 fun r12 =>
  pk (ld1 S11 r12) S11 fun r13 =>
  pk (pfield r3 2 1) S11 fun r14 =>
  pe (storeA 1 r14 r13 S11) fun r15 S15 =>
  pk (ldA S15 r3 3) S15 fun r16 =>
  pe (storeA 3 r2 r16 S15) fun r17 S17 =>
  (ldA S17 r2 3).map (·, S17)
theorem t39 (N d : Nat) (a0 : AV) (S : St) : R N (d + 1) 39 [a0] S = b39 (cfg N) (R N d) a0 S := by unfold R; kernel_rfl
noncomputable def b45 (C : Cfg) (run : FuncId → List AV → St → Option (AV × St)) (a0 a1 : AV) (S : St) : Option (AV × St) :=
  pe (boxA a0 S) fun r1 S1 =>
  pk (pfield r1 1 3) S1 fun r2 =>
  pk (ldA S1 r2 3) S1 fun r3 =>
  pq (call0 run 37 [r3, a1] S1) fun r4 =>
  pk (abin Try.prog .lss 3 r4 (AV.int .i64 0)) S1 fun r5 =>
  ifA r5
  (some (AV.int .i64 (-1), S1))
  (some (r4, S1))
theorem t45 (N d : Nat) (a0 a1 : AV) (S : St) : R N (d + 1) 45 [a0, a1] S = b45 (cfg N) (R N d) a0 a1 S := by unfold R; kernel_rfl
noncomputable def s46_0 (C : Cfg) (run : FuncId → List AV → St → Option (AV × St)) (a0 : AV) (a1 : AV) (l : List AV) (S : St) : Option AOut :=
  pk (alen a1) S fun r5 =>
  pk (bin2 Try.prog .lss 3 ((l.getD 1 .non)) r5) S fun r6 =>
  ifA r6
  ((pk (pindex 4 a1 ((l.getD 1 .non)) S) S fun r7 =>
  pk (pfield r7 0 1) S fun r8 =>
  pk (ld1 S r8) S fun r9 =>
  pq (call0 run 83 [a0, r9] S) fun r10 =>
  pk (aun .not r10) S fun r11 =>
  guardA r11 false
  (pk (pindex 4 a1 ((l.getD 1 .non)) S) S fun r12 =>
  pk (pfield r12 1 3) S fun r13 =>
  pq (call0 run 84 [r13] S) fun r14 =>
  pk (aun .not r14) S fun r15 =>
  ifA r15
  (some (AOut.ret [AV.int .i64 3] S))
  (some (AOut.norm [(l.getD 0 .non)] S)))
  (some (AOut.ret [AV.int .i64 3] S))).bind fun
  | AOut.norm l16 S16 => pk (abin Try.prog .add 3 ((l.getD 1 .non)) (AV.int .i64 1)) S16 fun r17 =>
  some (AOut.norm [(l16.getD 0 .non), r17] S16)
  | AOut.exit x16 l16 S16 => some (AOut.exit x16 [(l16.getD 0 .non), (l.getD 1 .non)] S16)
  | AOut.ret l16 S16 => some (AOut.ret [(l16.getD 0 .non), (l.getD 1 .non)] S16))
  (some (AOut.exit 0 [(l.getD 0 .non), (l.getD 1 .non)] S))
noncomputable def b46 (C : Cfg) (run : FuncId → List AV → St → Option (AV × St)) (a0 a1 : AV) (S : St) : Option (AV × St) :=
  pq (call0 run 71 [a0] S) fun r1 =>
  pk (aun .not r1) S fun r2 =>
  ifA r2
  (some (AV.int .i64 3, S))
  (pk (alen a1) S fun r3 =>
  pk (abin Try.prog .gtr 3 r3 (AV.int .i64 40)) S fun r4 =>
  ifA r4
  (some (AV.int .i64 2, S))
  ((aloop (s46_0 C run a0 a1) C.N [AV.int .i64 0, AV.int .i64 0] S).bind fun
  | AOut.norm _ _ => none
  | AOut.exit x18 l18 S18 => if x18 = 0 then some (AV.int .i64 0, S18) else none
  | AOut.ret l18 S18 => some ((l18.getD 0 .non), S18)))
theorem t46 (N d : Nat) (a0 a1 : AV) (S : St) : R N (d + 1) 46 [a0, a1] S = b46 (cfg N) (R N d) a0 a1 S := by unfold R; kernel_rfl
noncomputable def b47 (C : Cfg) (run : FuncId → List AV → St → Option (AV × St)) (a0 : AV) (S : St) : Option (AV × St) :=
  pe (boxA a0 S) fun r1 S1 =>
  pe (some (newBox S1 [AV.int .i64 0, AV.int .i64 0, AV.int .i64 0, AV.str ⟨#[]⟩])) fun r2 S2 =>
  pe (some (newBox S2 [AV.int .i64 0, AV.int .i64 0, AV.int .i64 0, AV.str ⟨#[]⟩])) fun r3 S3 =>
  pk (pfield r1 0 1) S3 fun r4 =>
  pk (ld1 S3 r4) S3 fun r5 =>
  pk (pfield r3 0 1) S3 fun r6 =>
  pe (storeA 1 r6 r5 S3) fun r7 S7 =>
  pk (pfield r1 1 3) S7 fun r8 =>
  pk (ldA S7 r8 3) S7 fun r9 =>
  pq (call0 run 39 [r9] S7) fun r10 =>
  pk (pfield r3 1 3) S7 fun r11 =>
  pe (storeA 3 r11 r10 S7) fun r12 S12 =>
  pk (ldA S12 r3 4) S12 fun r13 =>
  pe (storeA 4 r2 r13 S12) fun r14 S14 =>
  (ldA S14 r2 4).map (·, S14)
theorem t47 (N d : Nat) (a0 : AV) (S : St) : R N (d + 1) 47 [a0] S = b47 (cfg N) (R N d) a0 S := by unfold R; kernel_rfl
noncomputable def b48 (C : Cfg) (run : FuncId → List AV → St → Option (AV × St)) (a0 : AV) (S : St) : Option (AV × St) :=
  pq (call0 run 85 [a0, AV.int .i64 1, AV.int .i64 2] S) fun r1 =>
  some (r1, S)
theorem t48 (N d : Nat) (a0 : AV) (S : St) : R N (d + 1) 48 [a0] S = b48 (cfg N) (R N d) a0 S := by unfold R; kernel_rfl
noncomputable def b49 (C : Cfg) (run : FuncId → List AV → St → Option (AV × St)) (a0 a1 : AV) (S : St) : Option (AV × St) :=
  pq (call0 run 86 [a0, a1] S) fun r1 =>
  pk (abin Try.prog .geq 3 r1 (AV.int .i64 0)) S fun r2 =>
  some (r2, S)
theorem t49 (N d : Nat) (a0 a1 : AV) (S : St) : R N (d + 1) 49 [a0, a1] S = b49 (cfg N) (R N d) a0 a1 S := by unfold R; kernel_rfl
noncomputable def b50 (C : Cfg) (run : FuncId → List AV → St → Option (AV × St)) (a0 a1 : AV) (S : St) : Option (AV × St) :=
  pe (boxA a0 S) fun r1 S1 =>
  pk (ld1 S1 a1) S1 fun r2 =>
  pk (pfield r1 0 1) S1 fun r3 =>
  pk (ld1 S1 r3) S1 fun r4 =>
  pq (call0 run 51 [r2, r4] S1) fun r5 =>
  pk (aun .not r5) S1 fun r6 =>
  guardA r6 false
  (pk (pfield r1 1 3) S1 fun r7 =>
  pk (ldA S1 r7 3) S1 fun r8 =>
  pq (call0 run 52 [r8] S1) fun r9 =>
  pk (aun .not r9) S1 fun r10 =>
  some (r10, S1))
  (some (AV.bool true, S1))
theorem t50 (N d : Nat) (a0 a1 : AV) (S : St) : R N (d + 1) 50 [a0, a1] S = b50 (cfg N) (R N d) a0 a1 S := by unfold R; kernel_rfl
noncomputable def b51 (C : Cfg) (run : FuncId → List AV → St → Option (AV × St)) (a0 a1 : AV) (S : St) : Option (AV × St) :=
  pq (call0 run 87 [a0] S) fun r1 =>
  pq (call0 run 85 [a1, AV.int .i64 1, r1] S) fun r2 =>
  some (r2, S)
theorem t51 (N d : Nat) (a0 a1 : AV) (S : St) : R N (d + 1) 51 [a0, a1] S = b51 (cfg N) (R N d) a0 a1 S := by unfold R; kernel_rfl
noncomputable def b52 (C : Cfg) (run : FuncId → List AV → St → Option (AV × St)) (a0 : AV) (S : St) : Option (AV × St) :=
  pe (boxA a0 S) fun r1 S1 =>
  pk (pfield r1 0 1) S1 fun r2 =>
  pk (ld1 S1 r2) S1 fun r3 =>
  pq (call0 run 85 [r3, AV.int .i64 0, AV.int .i64 10] S1) fun r4 =>
  guardA r4 true
  (pk (pfield r1 1 1) S1 fun r5 =>
  pk (ld1 S1 r5) S1 fun r6 =>
  pq (call0 run 85 [r6, AV.int .i64 (-1), AV.int .i64 9999] S1) fun r7 =>
  guardA r7 true
  (pk (pfield r1 2 1) S1 fun r8 =>
  pk (ld1 S1 r8) S1 fun r9 =>
  pk (slen r9) S1 fun r10 =>
  pk (abin Try.prog .leq 3 r10 (AV.int .i64 24)) S1 fun r11 =>
  some (r11, S1))
  (some (AV.bool false, S1)))
  (some (AV.bool false, S1))
theorem t52 (N d : Nat) (a0 : AV) (S : St) : R N (d + 1) 52 [a0] S = b52 (cfg N) (R N d) a0 S := by unfold R; kernel_rfl
noncomputable def b53 (C : Cfg) (run : FuncId → List AV → St → Option (AV × St)) (a0 a1 : AV) (S : St) : Option (AV × St) :=
  pe (boxA a0 S) fun r1 S1 =>
  pe (boxA a1 S1) fun r2 S2 =>
  pk (pfield r1 0 1) S2 fun r3 =>
  pk (ld1 S2 r3) S2 fun r4 =>
  pk (pfield r2 0 1) S2 fun r5 =>
  pk (ld1 S2 r5) S2 fun r6 =>
  pk (bin2 Try.prog .neq 2 r4 r6) S2 fun r7 =>
  ifA r7
  (some (AV.bool false, S2))
  (pk (pfield r1 1 3) S2 fun r8 =>
  pk (ldA S2 r8 3) S2 fun r9 =>
  pk (pfield r2 1 3) S2 fun r10 =>
  pk (ldA S2 r10 3) S2 fun r11 =>
  pq (call0 run 70 [r9, r11] S2) fun r12 =>
  pk (aun .not r12) S2 fun r13 =>
  ifA r13
  (some (AV.bool false, S2))
  (some (AV.bool true, S2)))
theorem t53 (N d : Nat) (a0 a1 : AV) (S : St) : R N (d + 1) 53 [a0, a1] S = b53 (cfg N) (R N d) a0 a1 S := by unfold R; kernel_rfl
noncomputable def b70 (C : Cfg) (run : FuncId → List AV → St → Option (AV × St)) (a0 a1 : AV) (S : St) : Option (AV × St) :=
  pe (boxA a0 S) fun r1 S1 =>
  pe (boxA a1 S1) fun r2 S2 =>
  pk (pfield r1 0 1) S2 fun r3 =>
  pk (ld1 S2 r3) S2 fun r4 =>
  pk (pfield r2 0 1) S2 fun r5 =>
  pk (ld1 S2 r5) S2 fun r6 =>
  pk (bin2 Try.prog .neq 2 r4 r6) S2 fun r7 =>
  ifA r7
  (some (AV.bool false, S2))
  (pk (pfield r1 1 1) S2 fun r8 =>
  pk (ld1 S2 r8) S2 fun r9 =>
  pk (pfield r2 1 1) S2 fun r10 =>
  pk (ld1 S2 r10) S2 fun r11 =>
  pk (bin2 Try.prog .neq 2 r9 r11) S2 fun r12 =>
  ifA r12
  (some (AV.bool false, S2))
  (pk (pfield r1 2 1) S2 fun r13 =>
  pk (ld1 S2 r13) S2 fun r14 =>
  pk (pfield r2 2 1) S2 fun r15 =>
  pk (ld1 S2 r15) S2 fun r16 =>
  pk (bin2 Try.prog .neq 9 r14 r16) S2 fun r17 =>
  ifA r17
  (some (AV.bool false, S2))
  (some (AV.bool true, S2))))
theorem t70 (N d : Nat) (a0 a1 : AV) (S : St) : R N (d + 1) 70 [a0, a1] S = b70 (cfg N) (R N d) a0 a1 S := by unfold R; kernel_rfl
noncomputable def b71 (C : Cfg) (run : FuncId → List AV → St → Option (AV × St)) (a0 : AV) (S : St) : Option (AV × St) :=
  pq (call0 run 90 [a0, AV.int .i64 1, AV.int .i64 2] S) fun r1 =>
  some (r1, S)
theorem t71 (N d : Nat) (a0 : AV) (S : St) : R N (d + 1) 71 [a0] S = b71 (cfg N) (R N d) a0 S := by unfold R; kernel_rfl
noncomputable def b83 (C : Cfg) (run : FuncId → List AV → St → Option (AV × St)) (a0 a1 : AV) (S : St) : Option (AV × St) :=
  pk (abin Try.prog .mul 2 (AV.int .i64 3) a0) S fun r1 =>
  pk (abin Try.prog .add 2 r1 (AV.int .i64 1)) S fun r2 =>
  pq (call0 run 90 [a1, AV.int .i64 1, r2] S) fun r3 =>
  some (r3, S)
theorem t83 (N d : Nat) (a0 a1 : AV) (S : St) : R N (d + 1) 83 [a0, a1] S = b83 (cfg N) (R N d) a0 a1 S := by unfold R; kernel_rfl
noncomputable def b84 (C : Cfg) (run : FuncId → List AV → St → Option (AV × St)) (a0 : AV) (S : St) : Option (AV × St) :=
  pq (nilA a0 S) fun r1 =>
  pk (pfield r1 0 1) S fun r2 =>
  pk (ld1 S r2) S fun r3 =>
  pq (call0 run 90 [r3, AV.int .i64 0, AV.int .i64 10] S) fun r4 =>
  guardA r4 true
  (pq (nilA a0 S) fun r5 =>
  pk (pfield r5 1 1) S fun r6 =>
  pk (ld1 S r6) S fun r7 =>
  pq (call0 run 90 [r7, AV.int .i64 (-1), AV.int .i64 9999] S) fun r8 =>
  guardA r8 true
  (pq (nilA a0 S) fun r9 =>
  pk (pfield r9 2 1) S fun r10 =>
  pk (ld1 S r10) S fun r11 =>
  pk (slen r11) S fun r12 =>
  pk (abin Try.prog .leq 3 r12 (AV.int .i64 24)) S fun r13 =>
  some (r13, S))
  (some (AV.bool false, S)))
  (some (AV.bool false, S))
theorem t84 (N d : Nat) (a0 : AV) (S : St) : R N (d + 1) 84 [a0] S = b84 (cfg N) (R N d) a0 S := by unfold R; kernel_rfl
noncomputable def b85 (C : Cfg) (run : FuncId → List AV → St → Option (AV × St)) (a0 a1 a2 : AV) (S : St) : Option (AV × St) :=
  pk (bin2 Try.prog .leq 2 a1 a0) S fun r1 =>
  guardA r1 true
  (pk (bin2 Try.prog .leq 2 a0 a2) S fun r2 =>
  some (r2, S))
  (some (AV.bool false, S))
theorem t85 (N d : Nat) (a0 a1 a2 : AV) (S : St) : R N (d + 1) 85 [a0, a1, a2] S = b85 (cfg N) (R N d) a0 a1 a2 S := by unfold R; kernel_rfl
noncomputable def s86_0 (C : Cfg) (run : FuncId → List AV → St → Option (AV × St)) (a0 : AV) (a1 : AV) (r1 : AV) (l : List AV) (S : St) : Option AOut :=
  pk (bin2 Try.prog .lss 3 ((l.getD 1 .non)) r1) S fun r2 =>
  ifA r2
  (pk (pindex 4 a0 ((l.getD 1 .non)) S) S fun r3 =>
  pk (ldA S r3 4) S fun r4 =>
  pe (callV C run 86 a1 [r4] S) fun r5 S5 =>
  ifA r5
  (some (AOut.ret [(l.getD 1 .non), (l.getD 1 .non)] S5))
  (pk (abin Try.prog .add 3 ((l.getD 1 .non)) (AV.int .i64 1)) S5 fun r6 =>
  some (AOut.norm [(l.getD 0 .non), r6] S5)))
  (some (AOut.exit 0 [(l.getD 0 .non), (l.getD 1 .non)] S))
noncomputable def b86 (C : Cfg) (run : FuncId → List AV → St → Option (AV × St)) (a0 a1 : AV) (S : St) : Option (AV × St) :=
  pk (alen a0) S fun r1 =>
  (aloop (s86_0 C run a0 a1 r1) C.N [AV.int .i64 0, AV.int .i64 0] S).bind fun
  | AOut.norm _ _ => none
  | AOut.exit x7 l7 S7 => if x7 = 0 then some (AV.int .i64 (-1), S7) else none
  | AOut.ret l7 S7 => some ((l7.getD 0 .non), S7)
theorem t86 (N d : Nat) (a0 a1 : AV) (S : St) : R N (d + 1) 86 [a0, a1] S = b86 (cfg N) (R N d) a0 a1 S := by unfold R; kernel_rfl
noncomputable def b87 (C : Cfg) (run : FuncId → List AV → St → Option (AV × St)) (a0 : AV) (S : St) : Option (AV × St) :=
  pk (abin Try.prog .mul 2 (AV.int .i64 3) a0) S fun r1 =>
  pk (abin Try.prog .add 2 r1 (AV.int .i64 1)) S fun r2 =>
  some (r2, S)
theorem t87 (N d : Nat) (a0 : AV) (S : St) : R N (d + 1) 87 [a0] S = b87 (cfg N) (R N d) a0 S := by unfold R; kernel_rfl
noncomputable def b90 (C : Cfg) (run : FuncId → List AV → St → Option (AV × St)) (a0 a1 a2 : AV) (S : St) : Option (AV × St) :=
  pk (bin2 Try.prog .geq 2 a0 a1) S fun r1 =>
  guardA r1 true
  (pk (bin2 Try.prog .leq 2 a0 a2) S fun r2 =>
  some (r2, S))
  (some (AV.bool false, S))
theorem t90 (N d : Nat) (a0 a1 a2 : AV) (S : St) : R N (d + 1) 90 [a0, a1, a2] S = b90 (cfg N) (R N d) a0 a1 a2 S := by unfold R; kernel_rfl
end Go.Proofs.Ytionojjamahhpaa
