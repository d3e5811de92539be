/- What the evaluator makes of the functions; what they compute. -/
import Derived.Test.YtodfmofjncmdfaaProg
import Derived.KernelRfl
import Derived.Test.YtodfmofjncmdfaaRg2
namespace Go.Proofs.Ytodfmofjncmdfaa
open Go Go.Rf
set_option linter.unusedVariables false
noncomputable section
def cutT : List (Nat × List Nat) := [(5400006009, [4]), (5410004005, [4, 5]), (9810002003, [4, 5]), (5500005006, []), (5510003004, [6]), (2010003004, [4]), (9900003007, [4]), (9910002008, [4, 9]), (12210002006, [4, 8]), (5900005006, [5]), (5910003004, [5, 6]), (2110008011, [28]), (2310004005, [4, 5]), (4910004005, [4, 5]), (1310004005, [4, 5]), (10110004005, [4, 5]), (13210004005, [4, 5]), (10210004005, [4, 5]), (2410002003, [1, 5]), (5010002003, [1, 5]), (1510002003, [1, 5]), (10310002003, [1, 5]), (7010004006, [0, 3]), (12510002003, [1, 5]), (10410002003, [1, 5]), (7110002003, [1, 4, 5]), (9710002003, [1, 4, 5]), (5110002003, [1, 4, 5]), (10510002003, [1, 4, 5]), (12610002003, [1, 4, 5]), (10610002003, [1, 4, 5]), (400012013, [4])]
def mdT : List (Nat × Nat) := [(40020, 1), (40021, 1), (40024, 2), (40025, 2), (150024, 2), (150050, 2), (210058, 1), (250061, 2), (610015, 2), (610024, 2), (610103, 2), (610104, 2), (1040125, 2)]
@[irreducible] def NN : Nat := maxLen + 1
def cfg (N : Nat) : Cfg := { P := Try.prog, N := N, md := fun f g => lookM mdT (f * 10000 + g), cut := fun f k => lookT cutT (f * 100000000 + k), ext := fun f => none }
@[irreducible] noncomputable def R (N d : Nat) : FuncId → List AV → St → Option (AV × St) := arun (cfg N) d
def b74 (C : Cfg) (run : RunT) (a0 a1 a2 : AV) (S : St) : OA :=
  pk (bin2 Try.prog .geq 2 a0 a1) S fun r1 =>
  guardA r1 true
  (pk (bin2 Try.prog .leq 2 a0 a2) S fun r2 =>
  some (r2, S))
  (some (AV.bool false, S))
theorem t74 (N d : Nat) (a0 a1 a2 : AV) (S : St) : R N (d + 1) 74 [a0, a1, a2] S = b74 (cfg N) (R N d) a0 a1 a2 S := by unfold R; kernel_rfl
def b52 (C : Cfg) (run : RunT) (a0 : AV) (S : St) : OA :=
  pq (call0 run 74 [a0, AV.int .i64 1, AV.int .i64 2] S) fun r1 =>
  some (r1, S)
theorem t52 (N d : Nat) (a0 : AV) (S : St) : R N (d + 1) 52 [a0] S = b52 (cfg N) (R N d) a0 S := by unfold R; kernel_rfl
def b53 (C : Cfg) (run : RunT) (a0 : AV) (S : St) : OA :=
  pe (some (newBox S [AV.int .i64 0, AV.int .i64 0, AV.rsl false true [], AV.rsl false true [], AV.rsl false true [], AV.rsl false true []])) fun r1 S1 =>
  pk (abuild Try.prog 50 [(0, a0)]) S1 fun r2 =>
  pe (storeA 6 r1 r2 S1) fun r3 S3 =>
  (ldA S3 r1 6).map (·, S3)
theorem t53 (N d : Nat) (a0 : AV) (S : St) : R N (d + 1) 53 [a0] S = b53 (cfg N) (R N d) a0 S := by unfold R; kernel_rfl
def b75 (C : Cfg) (run : RunT) (a0 a1 : AV) (S : St) : OA :=
  pk (abin Try.prog .mul 2 (AV.int .i64 3) a0) S fun r1 =>
  pk (abin Try.prog .add 2 r1 (AV.int .i64 1)) S fun r2 =>
  pq (call0 run 74 [a1, AV.int .i64 1, r2] S) fun r3 =>
  some (r3, S)
theorem t75 (N d : Nat) (a0 a1 : AV) (S : St) : R N (d + 1) 75 [a0, a1] S = b75 (cfg N) (R N d) a0 a1 S := by unfold R; kernel_rfl
def s54_0 (C : Cfg) (run : RunT) (a0 : AV) (a1 : AV) (l : List AV) (S : St) : Option AOut :=
  pk (alen a1) S fun r3 =>
  pk (bin2 Try.prog .lss 3 ((gd l 1)) r3) S fun r4 =>
  ifA r4
  ((pk (pindex 1 a1 ((gd l 1)) S) S fun r5 =>
  pk (ld1 S r5) S fun r6 =>
  pq (call0 run 75 [a0, r6] S) fun r7 =>
  pk (aun .not r7) S fun r8 =>
  ifA r8
  (some (AOut.ret [AV.int .i64 3] S))
  (pk (abin Try.prog .gtr 3 ((gd l 1)) (AV.int .i64 0)) S fun r9 =>
  guardA r9 true
  (pk (pindex 1 a1 ((gd l 1)) S) S fun r10 =>
  pk (ld1 S r10) S fun r11 =>
  pk (abin Try.prog .sub 3 ((gd l 1)) (AV.int .i64 1)) S fun r12 =>
  pk (pindex 1 a1 r12 S) S fun r13 =>
  pk (ld1 S r13) S fun r14 =>
  pk (bin2 Try.prog .leq 2 r11 r14) S fun r15 =>
  ifA r15
  (some (AOut.ret [AV.int .i64 1] S))
  (some (AOut.norm [(gd l 0)] S)))
  (some (AOut.norm [(gd l 0)] S)))).bind fun
  | AOut.norm l16 S16 => (pk (abin Try.prog .add 3 ((gd l 1)) (AV.int .i64 1)) S16 fun r17 =>
  some (AOut.norm [(gd l16 0), r17] S16))
  | AOut.exit x16 l16 S16 => (some (AOut.exit x16 [(gd l16 0), (gd l 1)] S16))
  | AOut.ret l16 S16 => (some (AOut.ret [(gd l16 0), (gd l 1)] S16)))
  (some (AOut.exit 0 [(gd l 0), (gd l 1)] S))
def b54 (C : Cfg) (run : RunT) (a0 a1 : AV) (S : St) : OA :=
  pk (alen a1) S fun r1 =>
  pk (bin2 Try.prog .gtr 2 r1 a0) S fun r2 =>
  ifA r2
  (some (AV.int .i64 2, S))
  ((aloop (s54_0 C run a0 a1) C.N [AV.int .i64 0, AV.int .i64 0] S).bind fun
  | AOut.norm _ _ => (none)
  | AOut.exit x18 l18 S18 => (if x18 = 0 then (some (AV.int .i64 0, S18)) else (none))
  | AOut.ret l18 S18 => (some ((gd l18 0), S18)))
theorem t54 (N d : Nat) (a0 a1 : AV) (S : St) : R N (d + 1) 54 [a0, a1] S = b54 (cfg N) (R N d) a0 a1 S := by unfold R; kernel_rfl
def s98_0 (C : Cfg) (run : RunT) (a0 : AV) (a1 : AV) (l : List AV) (S : St) : Option AOut :=
  pk (alen a0) S fun r1 =>
  pk (bin2 Try.prog .lss 3 ((gd l 1)) r1) S fun r2 =>
  ifA r2
  (pk (pindex 1 a0 ((gd l 1)) S) S fun r3 =>
  pk (ld1 S r3) S fun r4 =>
  pk (bin2 Try.prog .eql 2 r4 a1) S fun r5 =>
  ifA r5
  (some (AOut.ret [AV.bool true, (gd l 1)] S))
  (pk (abin Try.prog .add 3 ((gd l 1)) (AV.int .i64 1)) S fun r6 =>
  some (AOut.norm [(gd l 0), r6] S)))
  (some (AOut.exit 0 [(gd l 0), (gd l 1)] S))
def b98 (C : Cfg) (run : RunT) (a0 a1 : AV) (S : St) : OA :=
  (aloop (s98_0 C run a0 a1) C.N [AV.bool false, AV.int .i64 0] S).bind fun
  | AOut.norm _ _ => (none)
  | AOut.exit x7 l7 S7 => (if x7 = 0 then (some (AV.bool false, S7)) else (none))
  | AOut.ret l7 S7 => (some ((gd l7 0), S7))
theorem t98 (N d : Nat) (a0 a1 : AV) (S : St) : R N (d + 1) 98 [a0, a1] S = b98 (cfg N) (R N d) a0 a1 S := by unfold R; kernel_rfl
def s55_0 (C : Cfg) (run : RunT) (a0 : AV) (a1 : AV) (r5 : AV) (l : List AV) (S : St) : Option AOut :=
  pk (abin Try.prog .mul 2 (AV.int .i64 3) a0) S fun r7 =>
  pk (abin Try.prog .add 2 r7 (AV.int .i64 1)) S fun r8 =>
  pk (bin2 Try.prog .leq 2 ((gd l 0)) r8) S fun r9 =>
  ifA r9
  ((pq (call0 run 98 [a1, (gd l 0)] S) fun r10 =>
  pk (aun .not r10) S fun r11 =>
  ifA r11
  (pk (pfield r5 2 1) S fun r12 =>
  pk (ld1 S r12) S fun r13 =>
  pk (abuild Try.prog 94 [(0, (gd l 0)), (2, AV.int .i64 (-1))]) S fun r14 =>
  pe (abuildS Try.prog 45 1 [(0, r14)] S) fun r15 S15 =>
  pe (appA 4 32 r13 r15 S15) fun r16 S16 =>
  pk (pfield r5 2 1) S16 fun r17 =>
  pe (storeA 1 r17 r16 S16) fun r18 S18 =>
  some (AOut.norm [] S18))
  (some (AOut.norm [] S))).bind fun
  | AOut.norm l19 S19 => (pk (abin Try.prog .add 2 ((gd l 0)) (AV.int .i64 1)) S19 fun r20 =>
  some (AOut.norm [r20] S19))
  | AOut.exit x19 l19 S19 => (some (AOut.exit x19 [(gd l 0)] S19))
  | AOut.ret l19 S19 => (some (AOut.ret [(gd l 0)] S19)))
  (some (AOut.exit 0 [(gd l 0)] S))
def b55 (C : Cfg) (run : RunT) (a0 a1 : AV) (S : St) : OA :=
  pe (some (newBox S [AV.int .i64 0, AV.rsl false true [], AV.rsl false true [], AV.rsl false true [], AV.rsl false true []])) fun r1 S1 =>
  pe (abuildS Try.prog 24 0 [] S1) fun r2 S2 =>
  pe (appA 1 8 r2 a1 S2) fun r3 S3 =>
  pk (abuild Try.prog 48 [(0, a0), (1, r3)]) S3 fun r4 =>
  pe (some (newBox S3 [AV.int .i64 0, AV.rsl false true [], AV.rsl false true [], AV.rsl false true [], AV.rsl false true []])) fun r5 S5 =>
  pe (storeA 5 r5 r4 S5) fun r6 S6 =>
  (aloop (s55_0 C run a0 a1 r5) C.N [AV.int .i64 1] S6).bind fun
  | AOut.norm _ _ => (none)
  | AOut.exit x21 l21 S21 => (if x21 = 0 then (pk (ldA S21 r5 5) S21 fun r22 =>
  pe (storeA 5 r1 r22 S21) fun r23 S23 =>
  (ldA S23 r1 5).map (·, S23)) else (none))
  | AOut.ret l21 S21 => ((ldA S21 r1 5).map (·, S21))
theorem t55 (N d : Nat) (a0 a1 : AV) (S : St) : R N (d + 1) 55 [a0, a1] S = b55 (cfg N) (R N d) a0 a1 S := by unfold R; kernel_rfl
def b19 (C : Cfg) (run : RunT) (a0 a1 : AV) (S : St) : OA :=
  pe (some (newBox S [AV.int .i64 0, AV.int .i64 0, AV.rsl false true [], AV.rsl false true [], AV.rsl false true [], AV.rsl false true []])) fun r1 S1 =>
  pq (call0 run 52 [a0] S1) fun r2 =>
  pk (aun .not r2) S1 fun r3 =>
  ifA r3
  (pq (call0 run 53 [AV.int .i64 3] S1) fun r4 =>
  pe (storeA 6 r1 r4 S1) fun r5 S5 =>
  (ldA S5 r1 6).map (·, S5))
  (pq (call0 run 54 [a0, a1] S1) fun r6 =>
  pk (abin Try.prog .neq 2 r6 (AV.int .i64 0)) S1 fun r7 =>
  ifA r7
  (pq (call0 run 53 [r6] S1) fun r8 =>
  pe (storeA 6 r1 r8 S1) fun r9 S9 =>
  (ldA S9 r1 6).map (·, S9))
  (pq (call0 run 55 [a0, a1] S1) fun r10 =>
  pk (abuild Try.prog 50 [(1, r10)]) S1 fun r11 =>
  pe (storeA 6 r1 r11 S1) fun r12 S12 =>
  (ldA S12 r1 6).map (·, S12)))
theorem t19 (N d : Nat) (a0 a1 : AV) (S : St) : R N (d + 1) 19 [a0, a1] S = b19 (cfg N) (R N d) a0 a1 S := by unfold R; kernel_rfl
def s20_0 (C : Cfg) (run : RunT) (a0 : AV) (r2 : AV) (l : List AV) (S : St) : Option AOut :=
  pk (alen a0) S fun r3 =>
  pk (bin2 Try.prog .lss 3 ((gd l 0)) r3) S fun r4 =>
  ifA r4
  (pk (pindex 1 a0 ((gd l 0)) S) S fun r5 =>
  pk (ld1 S r5) S fun r6 =>
  pk (pindex 1 r2 ((gd l 0)) S) S fun r7 =>
  pe (storeA 1 r7 r6 S) fun r8 S8 =>
  pk (abin Try.prog .add 3 ((gd l 0)) (AV.int .i64 1)) S8 fun r9 =>
  some (AOut.norm [r9] S8))
  (some (AOut.exit 0 [(gd l 0)] S))
def b20 (C : Cfg) (run : RunT) (a0 : AV) (S : St) : OA :=
  pk (alen a0) S fun r1 =>
  pe (amake Try.prog 24 r1 r1 S) fun r2 S2 =>
  (aloop (s20_0 C run a0 r2) C.N [AV.int .i64 0] S2).bind fun
  | AOut.norm _ _ => (none)
  | AOut.exit x10 l10 S10 => (if x10 = 0 then (some (r2, S10)) else (none))
  | AOut.ret l10 S10 => (some (AV.rsl false true [], S10))
theorem t20 (N d : Nat) (a0 : AV) (S : St) : R N (d + 1) 20 [a0] S = b20 (cfg N) (R N d) a0 S := by unfold R; kernel_rfl
def b84 (C : Cfg) (run : RunT) (a0 a1 a2 : AV) (S : St) : OA :=
  pk (bin2 Try.prog .leq 2 a1 a0) S fun r1 =>
  guardA r1 true
  (pk (bin2 Try.prog .leq 2 a0 a2) S fun r2 =>
  some (r2, S))
  (some (AV.bool false, S))
theorem t84 (N d : Nat) (a0 a1 a2 : AV) (S : St) : R N (d + 1) 84 [a0, a1, a2] S = b84 (cfg N) (R N d) a0 a1 a2 S := by unfold R; kernel_rfl
def b56 (C : Cfg) (run : RunT) (a0 : AV) (S : St) : OA :=
  pq (call0 run 84 [a0, AV.int .i64 1, AV.int .i64 2] S) fun r1 =>
  some (r1, S)
theorem t56 (N d : Nat) (a0 : AV) (S : St) : R N (d + 1) 56 [a0] S = b56 (cfg N) (R N d) a0 S := by unfold R; kernel_rfl
def b89 (C : Cfg) (run : RunT) (a0 : AV) (S : St) : OA :=
  pk (abin Try.prog .mul 2 (AV.int .i64 3) a0) S fun r1 =>
  pk (abin Try.prog .add 2 r1 (AV.int .i64 1)) S fun r2 =>
  some (r2, S)
theorem t89 (N d : Nat) (a0 : AV) (S : St) : R N (d + 1) 89 [a0] S = b89 (cfg N) (R N d) a0 S := by unfold R; kernel_rfl
def b86 (C : Cfg) (run : RunT) (a0 a1 : AV) (S : St) : OA :=
  pq (call0 run 89 [a0] S) fun r1 =>
  pq (call0 run 84 [a1, AV.int .i64 1, r1] S) fun r2 =>
  some (r2, S)
theorem t86 (N d : Nat) (a0 a1 : AV) (S : St) : R N (d + 1) 86 [a0, a1] S = b86 (cfg N) (R N d) a0 a1 S := by unfold R; kernel_rfl
def s99_0 (C : Cfg) (run : RunT) (a0 : AV) (a1 : AV) (r1 : AV) (l : List AV) (S : St) : Option AOut :=
  pk (bin2 Try.prog .lss 3 ((gd l 1)) r1) S fun r2 =>
  ifA r2
  ((pk (pindex 1 a1 ((gd l 1)) S) S fun r3 =>
  pk (ld1 S r3) S fun r4 =>
  pq (call0 run 86 [a0, r4] S) fun r5 =>
  pk (aun .not r5) S fun r6 =>
  ifA r6
  (some (AOut.ret [AV.int .i64 3] S))
  (pk (abin Try.prog .gtr 3 ((gd l 1)) (AV.int .i64 0)) S fun r7 =>
  guardA r7 true
  (pk (abin Try.prog .sub 3 ((gd l 1)) (AV.int .i64 1)) S fun r8 =>
  pk (pindex 1 a1 r8 S) S fun r9 =>
  pk (ld1 S r9) S fun r10 =>
  pk (bin2 Try.prog .leq 2 r4 r10) S fun r11 =>
  ifA r11
  (some (AOut.ret [AV.int .i64 1] S))
  (some (AOut.norm [(gd l 0)] S)))
  (some (AOut.norm [(gd l 0)] S)))).bind fun
  | AOut.norm l12 S12 => (pk (abin Try.prog .add 3 ((gd l 1)) (AV.int .i64 1)) S12 fun r13 =>
  some (AOut.norm [(gd l12 0), r13] S12))
  | AOut.exit x12 l12 S12 => (some (AOut.exit x12 [(gd l12 0), (gd l 1)] S12))
  | AOut.ret l12 S12 => (some (AOut.ret [(gd l12 0), (gd l 1)] S12)))
  (some (AOut.exit 0 [(gd l 0), (gd l 1)] S))
def b99 (C : Cfg) (run : RunT) (a0 a1 : AV) (S : St) : OA :=
  pk (alen a1) S fun r1 =>
  (aloop (s99_0 C run a0 a1 r1) C.N [AV.int .i64 0, AV.int .i64 0] S).bind fun
  | AOut.norm _ _ => (none)
  | AOut.exit x14 l14 S14 => (if x14 = 0 then (some (AV.int .i64 0, S14)) else (none))
  | AOut.ret l14 S14 => (some ((gd l14 0), S14))
theorem t99 (N d : Nat) (a0 a1 : AV) (S : St) : R N (d + 1) 99 [a0, a1] S = b99 (cfg N) (R N d) a0 a1 S := by unfold R; kernel_rfl
def b57 (C : Cfg) (run : RunT) (a0 a1 : AV) (S : St) : OA :=
  pk (alen a1) S fun r1 =>
  pk (bin2 Try.prog .gtr 2 r1 a0) S fun r2 =>
  ifA r2
  (some (AV.int .i64 2, S))
  (pq (call0 run 99 [a0, a1] S) fun r3 =>
  some (r3, S))
theorem t57 (N d : Nat) (a0 a1 : AV) (S : St) : R N (d + 1) 57 [a0, a1] S = b57 (cfg N) (R N d) a0 a1 S := by unfold R; kernel_rfl
def b58 (C : Cfg) (run : RunT) (a0 : AV) (S : St) : OA :=
  pk (anil Try.prog 24 a0) S fun r1 =>
  ifA r1
  (some (AV.rsl false true [], S))
  (pe (abuildS Try.prog 24 0 [] S) fun r2 S2 =>
  pe (appA 1 8 r2 a0 S2) fun r3 S3 =>
  some (r3, S3))
theorem t58 (N d : Nat) (a0 : AV) (S : St) : R N (d + 1) 58 [a0] S = b58 (cfg N) (R N d) a0 S := by unfold R; kernel_rfl
def s122_0 (C : Cfg) (run : RunT) (a0 : AV) (a1 : AV) (r1 : AV) (l : List AV) (S : St) : Option AOut :=
  pk (bin2 Try.prog .lss 3 ((gd l 1)) r1) S fun r2 =>
  ifA r2
  (pk (pindex 1 a0 ((gd l 1)) S) S fun r3 =>
  pk (ld1 S r3) S fun r4 =>
  pk (bin2 Try.prog .eql 2 a1 r4) S fun r5 =>
  ifA r5
  (some (AOut.ret [(gd l 1), (gd l 1)] S))
  (pk (abin Try.prog .add 3 ((gd l 1)) (AV.int .i64 1)) S fun r6 =>
  some (AOut.norm [(gd l 0), r6] S)))
  (some (AOut.exit 0 [(gd l 0), (gd l 1)] S))
def b122 (C : Cfg) (run : RunT) (a0 a1 : AV) (S : St) : OA :=
  pk (alen a0) S fun r1 =>
  (aloop (s122_0 C run a0 a1 r1) C.N [AV.int .i64 0, AV.int .i64 0] S).bind fun
  | AOut.norm _ _ => (none)
  | AOut.exit x7 l7 S7 => (if x7 = 0 then (some (AV.int .i64 (-1), S7)) else (none))
  | AOut.ret l7 S7 => (some ((gd l7 0), S7))
theorem t122 (N d : Nat) (a0 a1 : AV) (S : St) : R N (d + 1) 122 [a0, a1] S = b122 (cfg N) (R N d) a0 a1 S := by unfold R; kernel_rfl
def b100 (C : Cfg) (run : RunT) (a0 a1 : AV) (S : St) : OA :=
  pq (call0 run 122 [a0, a1] S) fun r1 =>
  pk (abin Try.prog .geq 3 r1 (AV.int .i64 0)) S fun r2 =>
  some (r2, S)
theorem t100 (N d : Nat) (a0 a1 : AV) (S : St) : R N (d + 1) 100 [a0, a1] S = b100 (cfg N) (R N d) a0 a1 S := by unfold R; kernel_rfl
def s59_0 (C : Cfg) (run : RunT) (a0 : AV) (a1 : AV) (l : List AV) (S : St) : Option AOut :=
  pq (call0 run 89 [a0] S) fun r2 =>
  pk (bin2 Try.prog .leq 2 ((gd l 1)) r2) S fun r3 =>
  ifA r3
  ((pq (call0 run 100 [a1, (gd l 1)] S) fun r4 =>
  pk (aun .not r4) S fun r5 =>
  ifA r5
  (pe (abuildS Try.prog 24 1 [(0, (gd l 1))] S) fun r6 S6 =>
  pe (appA 1 8 ((gd l 0)) r6 S6) fun r7 S7 =>
  some (AOut.norm [r7] S7))
  (some (AOut.norm [(gd l 0)] S))).bind fun
  | AOut.norm l8 S8 => (pk (abin Try.prog .add 2 ((gd l 1)) (AV.int .i64 1)) S8 fun r9 =>
  some (AOut.norm [(gd l8 0), r9] S8))
  | AOut.exit x8 l8 S8 => (some (AOut.exit x8 [(gd l8 0), (gd l 1)] S8))
  | AOut.ret l8 S8 => (some (AOut.ret [(gd l8 0), (gd l 1)] S8)))
  (some (AOut.exit 0 [(gd l 0), (gd l 1)] S))
def b59 (C : Cfg) (run : RunT) (a0 a1 : AV) (S : St) : OA :=
  pe (abuildS Try.prog 24 0 [] S) fun r1 S1 =>
  (aloop (s59_0 C run a0 a1) C.N [r1, AV.int .i64 1] S1).bind fun
  | AOut.norm _ _ => (none)
  | AOut.exit x10 l10 S10 => (if x10 = 0 then (some ((gd l10 0), S10)) else (none))
  | AOut.ret l10 S10 => (some (AV.rsl false true [], S10))
theorem t59 (N d : Nat) (a0 a1 : AV) (S : St) : R N (d + 1) 59 [a0, a1] S = b59 (cfg N) (R N d) a0 a1 S := by unfold R; kernel_rfl
def s21_0 (C : Cfg) (run : RunT) (r12 : AV) (r14 : AV) (r15 : AV) (l : List AV) (S : St) : Option AOut :=
  pk (bin2 Try.prog .lss 3 ((gd l 0)) r15) S fun r16 =>
  ifA r16
  (pk (pindex 1 r14 ((gd l 0)) S) S fun r17 =>
  pk (ld1 S r17) S fun r18 =>
  pk (pfield r12 2 1) S fun r19 =>
  pk (ld1 S r19) S fun r20 =>
  pk (abuild Try.prog 94 [(0, r18), (2, AV.int .i64 (-1))]) S fun r21 =>
  pe (abuildS Try.prog 45 1 [(0, r21)] S) fun r22 S22 =>
  pe (appA 4 32 r20 r22 S22) fun r23 S23 =>
  pk (pfield r12 2 1) S23 fun r24 =>
  pe (storeA 1 r24 r23 S23) fun r25 S25 =>
  pk (abin Try.prog .add 3 ((gd l 0)) (AV.int .i64 1)) S25 fun r26 =>
  some (AOut.norm [r26] S25))
  (some (AOut.exit 0 [(gd l 0)] S))
def b21 (C : Cfg) (run : RunT) (a0 a1 : AV) (S : St) : OA :=
  pe (some (newBox S [AV.int .i64 0, AV.int .i64 0, AV.rsl false true [], AV.rsl false true [], AV.rsl false true [], AV.rsl false true []])) fun r1 S1 =>
  pq (call0 run 56 [a0] S1) fun r2 =>
  pk (aun .not r2) S1 fun r3 =>
  ifA r3
  (pk (abuild Try.prog 50 [(0, AV.int .i64 3)]) S1 fun r4 =>
  pe (storeA 6 r1 r4 S1) fun r5 S5 =>
  (ldA S5 r1 6).map (·, S5))
  (pq (call0 run 57 [a0, a1] S1) fun r6 =>
  pk (abin Try.prog .neq 2 r6 (AV.int .i64 0)) S1 fun r7 =>
  ifA r7
  (pk (abuild Try.prog 50 [(0, r6)]) S1 fun r8 =>
  pe (storeA 6 r1 r8 S1) fun r9 S9 =>
  (ldA S9 r1 6).map (·, S9))
  (pe (call1 run 58 [a1] S1) fun r10 S10 =>
  pk (abuild Try.prog 48 [(0, a0), (1, r10)]) S10 fun r11 =>
  pe (some (newBox S10 [AV.int .i64 0, AV.rsl false true [], AV.rsl false true [], AV.rsl false true [], AV.rsl false true []])) fun r12 S12 =>
  pe (storeA 5 r12 r11 S12) fun r13 S13 =>
  pq (call0 run 59 [a0, a1] S13) fun r14 =>
  pk (alen r14) S13 fun r15 =>
  (aloop (s21_0 C run r12 r14 r15) C.N [AV.int .i64 0] S13).bind fun
  | AOut.norm _ _ => (none)
  | AOut.exit x27 l27 S27 => (if x27 = 0 then (pk (ldA S27 r12 5) S27 fun r28 =>
  pk (abuild Try.prog 50 [(1, r28)]) S27 fun r29 =>
  pe (storeA 6 r1 r29 S27) fun r30 S30 =>
  (ldA S30 r1 6).map (·, S30)) else (none))
  | AOut.ret l27 S27 => ((ldA S27 r1 6).map (·, S27))))
theorem t21 (N d : Nat) (a0 a1 : AV) (S : St) : R N (d + 1) 21 [a0, a1] S = b21 (cfg N) (R N d) a0 a1 S := by unfold R; kernel_rfl
def s23_0 (C : Cfg) (run : RunT) (a0 : AV) (a1 : AV) (l : List AV) (S : St) : Option AOut :=
  pk (alen a0) S fun r4 =>
  pk (bin2 Try.prog .lss 3 ((gd l 1)) r4) S fun r5 =>
  ifA r5
  (pk (pindex 1 a0 ((gd l 1)) S) S fun r6 =>
  pk (ld1 S r6) S fun r7 =>
  pk (pindex 1 a1 ((gd l 1)) S) S fun r8 =>
  pk (ld1 S r8) S fun r9 =>
  pk (bin2 Try.prog .neq 2 r7 r9) S fun r10 =>
  ifA r10
  (some (AOut.ret [AV.bool false, (gd l 1)] S))
  (pk (abin Try.prog .add 3 ((gd l 1)) (AV.int .i64 1)) S fun r11 =>
  some (AOut.norm [(gd l 0), r11] S)))
  (some (AOut.exit 0 [(gd l 0), (gd l 1)] S))
def b23 (C : Cfg) (run : RunT) (a0 a1 : AV) (S : St) : OA :=
  pk (alen a0) S fun r1 =>
  pk (alen a1) S fun r2 =>
  pk (bin2 Try.prog .neq 3 r1 r2) S fun r3 =>
  ifA r3
  (some (AV.bool false, S))
  ((aloop (s23_0 C run a0 a1) C.N [AV.bool false, AV.int .i64 0] S).bind fun
  | AOut.norm _ _ => (none)
  | AOut.exit x12 l12 S12 => (if x12 = 0 then (some (AV.bool true, S12)) else (none))
  | AOut.ret l12 S12 => (some ((gd l12 0), S12)))
theorem t23 (N d : Nat) (a0 a1 : AV) (S : St) : R N (d + 1) 23 [a0, a1] S = b23 (cfg N) (R N d) a0 a1 S := by unfold R; kernel_rfl
def b96 (C : Cfg) (run : RunT) (a0 a1 : AV) (S : St) : OA :=
  pe (boxA a0 S) fun r1 S1 =>
  pe (boxA a1 S1) fun r2 S2 =>
  pk (pfield r1 0 1) S2 fun r3 =>
  pk (ld1 S2 r3) S2 fun r4 =>
  pk (pfield r2 0 1) S2 fun r5 =>
  pk (ld1 S2 r5) S2 fun r6 =>
  pk (bin2 Try.prog .neq 2 r4 r6) S2 fun r7 =>
  ifA r7
  (some (AV.bool false, S2))
  (pk (pfield r1 1 1) S2 fun r8 =>
  pk (ld1 S2 r8) S2 fun r9 =>
  pk (pfield r2 1 1) S2 fun r10 =>
  pk (ld1 S2 r10) S2 fun r11 =>
  pk (bin2 Try.prog .neq 2 r9 r11) S2 fun r12 =>
  ifA r12
  (some (AV.bool false, S2))
  (pk (pfield r1 2 1) S2 fun r13 =>
  pk (ld1 S2 r13) S2 fun r14 =>
  pk (pfield r2 2 1) S2 fun r15 =>
  pk (ld1 S2 r15) S2 fun r16 =>
  pk (bin2 Try.prog .neq 2 r14 r16) S2 fun r17 =>
  ifA r17
  (some (AV.bool false, S2))
  (some (AV.bool true, S2))))
theorem t96 (N d : Nat) (a0 a1 : AV) (S : St) : R N (d + 1) 96 [a0, a1] S = b96 (cfg N) (R N d) a0 a1 S := by unfold R; kernel_rfl
def s49_0 (C : Cfg) (run : RunT) (a0 : AV) (a1 : AV) (l : List AV) (S : St) : Option AOut :=
  pk (alen a0) S fun r4 =>
  pk (bin2 Try.prog .lss 3 ((gd l 1)) r4) S fun r5 =>
  ifA r5
  (pk (pindex 3 a0 ((gd l 1)) S) S fun r6 =>
  pk (ldA S r6 3) S fun r7 =>
  pk (pindex 3 a1 ((gd l 1)) S) S fun r8 =>
  pk (ldA S r8 3) S fun r9 =>
  pq (call0 run 96 [r7, r9] S) fun r10 =>
  pk (aun .not r10) S fun r11 =>
  ifA r11
  (some (AOut.ret [AV.bool false, (gd l 1)] S))
  (pk (abin Try.prog .add 3 ((gd l 1)) (AV.int .i64 1)) S fun r12 =>
  some (AOut.norm [(gd l 0), r12] S)))
  (some (AOut.exit 0 [(gd l 0), (gd l 1)] S))
def b49 (C : Cfg) (run : RunT) (a0 a1 : AV) (S : St) : OA :=
  pk (alen a0) S fun r1 =>
  pk (alen a1) S fun r2 =>
  pk (bin2 Try.prog .neq 3 r1 r2) S fun r3 =>
  ifA r3
  (some (AV.bool false, S))
  ((aloop (s49_0 C run a0 a1) C.N [AV.bool false, AV.int .i64 0] S).bind fun
  | AOut.norm _ _ => (none)
  | AOut.exit x13 l13 S13 => (if x13 = 0 then (some (AV.bool true, S13)) else (none))
  | AOut.ret l13 S13 => (some ((gd l13 0), S13)))
theorem t49 (N d : Nat) (a0 a1 : AV) (S : St) : R N (d + 1) 49 [a0, a1] S = b49 (cfg N) (R N d) a0 a1 S := by unfold R; kernel_rfl
def b14 (C : Cfg) (run : RunT) (a0 a1 : AV) (S : St) : OA :=
  pe (boxA a0 S) fun r1 S1 =>
  pe (boxA a1 S1) fun r2 S2 =>
  pk (pfield r1 0 1) S2 fun r3 =>
  pk (ld1 S2 r3) S2 fun r4 =>
  pk (pfield r2 0 1) S2 fun r5 =>
  pk (ld1 S2 r5) S2 fun r6 =>
  pk (bin2 Try.prog .neq 2 r4 r6) S2 fun r7 =>
  ifA r7
  (some (AV.bool false, S2))
  (pk (pfield r1 1 1) S2 fun r8 =>
  pk (ld1 S2 r8) S2 fun r9 =>
  pk (pfield r2 1 1) S2 fun r10 =>
  pk (ld1 S2 r10) S2 fun r11 =>
  pk (bin2 Try.prog .neq 2 r9 r11) S2 fun r12 =>
  ifA r12
  (some (AV.bool false, S2))
  (pk (pfield r1 2 1) S2 fun r13 =>
  pk (ld1 S2 r13) S2 fun r14 =>
  pk (pfield r2 2 1) S2 fun r15 =>
  pk (ld1 S2 r15) S2 fun r16 =>
  pk (bin2 Try.prog .neq 2 r14 r16) S2 fun r17 =>
  ifA r17
  (some (AV.bool false, S2))
  (pk (pfield r1 3 1) S2 fun r18 =>
  pk (ld1 S2 r18) S2 fun r19 =>
  pk (pfield r2 3 1) S2 fun r20 =>
  pk (ld1 S2 r20) S2 fun r21 =>
  pk (bin2 Try.prog .neq 2 r19 r21) S2 fun r22 =>
  ifA r22
  (some (AV.bool false, S2))
  (pk (pfield r1 4 1) S2 fun r23 =>
  pk (ld1 S2 r23) S2 fun r24 =>
  pk (pfield r2 4 1) S2 fun r25 =>
  pk (ld1 S2 r25) S2 fun r26 =>
  pk (bin2 Try.prog .neq 2 r24 r26) S2 fun r27 =>
  ifA r27
  (some (AV.bool false, S2))
  (pk (pfield r1 5 1) S2 fun r28 =>
  pk (ld1 S2 r28) S2 fun r29 =>
  pk (pfield r2 5 1) S2 fun r30 =>
  pk (ld1 S2 r30) S2 fun r31 =>
  pq (call0 run 49 [r29, r31] S2) fun r32 =>
  pk (aun .not r32) S2 fun r33 =>
  ifA r33
  (some (AV.bool false, S2))
  (pk (pfield r1 6 1) S2 fun r34 =>
  pk (ld1 S2 r34) S2 fun r35 =>
  pk (pfield r2 6 1) S2 fun r36 =>
  pk (ld1 S2 r36) S2 fun r37 =>
  pq (call0 run 23 [r35, r37] S2) fun r38 =>
  pk (aun .not r38) S2 fun r39 =>
  ifA r39
  (some (AV.bool false, S2))
  (some (AV.bool true, S2))))))))
theorem t14 (N d : Nat) (a0 a1 : AV) (S : St) : R N (d + 1) 14 [a0, a1] S = b14 (cfg N) (R N d) a0 a1 S := by unfold R; kernel_rfl
def s13_0 (C : Cfg) (run : RunT) (a0 : AV) (a1 : AV) (l : List AV) (S : St) : Option AOut :=
  pk (alen a0) S fun r4 =>
  pk (bin2 Try.prog .lss 3 ((gd l 1)) r4) S fun r5 =>
  ifA r5
  (pk (pindex 7 a0 ((gd l 1)) S) S fun r6 =>
  pk (ldA S r6 7) S fun r7 =>
  pk (pindex 7 a1 ((gd l 1)) S) S fun r8 =>
  pk (ldA S r8 7) S fun r9 =>
  pq (call0 run 14 [r7, r9] S) fun r10 =>
  pk (aun .not r10) S fun r11 =>
  ifA r11
  (some (AOut.ret [AV.bool false, (gd l 1)] S))
  (pk (abin Try.prog .add 3 ((gd l 1)) (AV.int .i64 1)) S fun r12 =>
  some (AOut.norm [(gd l 0), r12] S)))
  (some (AOut.exit 0 [(gd l 0), (gd l 1)] S))
def b13 (C : Cfg) (run : RunT) (a0 a1 : AV) (S : St) : OA :=
  pk (alen a0) S fun r1 =>
  pk (alen a1) S fun r2 =>
  pk (bin2 Try.prog .neq 3 r1 r2) S fun r3 =>
  ifA r3
  (some (AV.bool false, S))
  ((aloop (s13_0 C run a0 a1) C.N [AV.bool false, AV.int .i64 0] S).bind fun
  | AOut.norm _ _ => (none)
  | AOut.exit x13 l13 S13 => (if x13 = 0 then (some (AV.bool true, S13)) else (none))
  | AOut.ret l13 S13 => (some ((gd l13 0), S13)))
theorem t13 (N d : Nat) (a0 a1 : AV) (S : St) : R N (d + 1) 13 [a0, a1] S = b13 (cfg N) (R N d) a0 a1 S := by unfold R; kernel_rfl
def b123 (C : Cfg) (run : RunT) (a0 a1 : AV) (S : St) : OA :=
  pe (boxA a0 S) fun r1 S1 =>
  pe (boxA a1 S1) fun r2 S2 =>
  pk (pfield r1 0 1) S2 fun r3 =>
  pk (ld1 S2 r3) S2 fun r4 =>
  pk (pfield r2 0 1) S2 fun r5 =>
  pk (ld1 S2 r5) S2 fun r6 =>
  pk (bin2 Try.prog .neq 2 r4 r6) S2 fun r7 =>
  ifA r7
  (some (AV.bool false, S2))
  (pk (pfield r1 1 1) S2 fun r8 =>
  pk (ld1 S2 r8) S2 fun r9 =>
  pk (pfield r2 1 1) S2 fun r10 =>
  pk (ld1 S2 r10) S2 fun r11 =>
  pk (bin2 Try.prog .neq 2 r9 r11) S2 fun r12 =>
  ifA r12
  (some (AV.bool false, S2))
  (pk (pfield r1 2 1) S2 fun r13 =>
  pk (ld1 S2 r13) S2 fun r14 =>
  pk (pfield r2 2 1) S2 fun r15 =>
  pk (ld1 S2 r15) S2 fun r16 =>
  pk (bin2 Try.prog .neq 2 r14 r16) S2 fun r17 =>
  ifA r17
  (some (AV.bool false, S2))
  (pk (pfield r1 3 1) S2 fun r18 =>
  pk (ld1 S2 r18) S2 fun r19 =>
  pk (pfield r2 3 1) S2 fun r20 =>
  pk (ld1 S2 r20) S2 fun r21 =>
  pk (bin2 Try.prog .neq 2 r19 r21) S2 fun r22 =>
  ifA r22
  (some (AV.bool false, S2))
  (some (AV.bool true, S2)))))
theorem t123 (N d : Nat) (a0 a1 : AV) (S : St) : R N (d + 1) 123 [a0, a1] S = b123 (cfg N) (R N d) a0 a1 S := by unfold R; kernel_rfl
def s101_0 (C : Cfg) (run : RunT) (a0 : AV) (a1 : AV) (l : List AV) (S : St) : Option AOut :=
  pk (alen a0) S fun r4 =>
  pk (bin2 Try.prog .lss 3 ((gd l 1)) r4) S fun r5 =>
  ifA r5
  (pk (pindex 4 a0 ((gd l 1)) S) S fun r6 =>
  pk (ldA S r6 4) S fun r7 =>
  pk (pindex 4 a1 ((gd l 1)) S) S fun r8 =>
  pk (ldA S r8 4) S fun r9 =>
  pq (call0 run 123 [r7, r9] S) fun r10 =>
  pk (aun .not r10) S fun r11 =>
  ifA r11
  (some (AOut.ret [AV.bool false, (gd l 1)] S))
  (pk (abin Try.prog .add 3 ((gd l 1)) (AV.int .i64 1)) S fun r12 =>
  some (AOut.norm [(gd l 0), r12] S)))
  (some (AOut.exit 0 [(gd l 0), (gd l 1)] S))
def b101 (C : Cfg) (run : RunT) (a0 a1 : AV) (S : St) : OA :=
  pk (alen a0) S fun r1 =>
  pk (alen a1) S fun r2 =>
  pk (bin2 Try.prog .neq 3 r1 r2) S fun r3 =>
  ifA r3
  (some (AV.bool false, S))
  ((aloop (s101_0 C run a0 a1) C.N [AV.bool false, AV.int .i64 0] S).bind fun
  | AOut.norm _ _ => (none)
  | AOut.exit x13 l13 S13 => (if x13 = 0 then (some (AV.bool true, S13)) else (none))
  | AOut.ret l13 S13 => (some ((gd l13 0), S13)))
theorem t101 (N d : Nat) (a0 a1 : AV) (S : St) : R N (d + 1) 101 [a0, a1] S = b101 (cfg N) (R N d) a0 a1 S := by unfold R; kernel_rfl
def b144 (C : Cfg) (run : RunT) (a0 a1 : AV) (S : St) : OA :=
  pe (boxA a0 S) fun r1 S1 =>
  pe (boxA a1 S1) fun r2 S2 =>
  pk (pfield r1 0 1) S2 fun r3 =>
  pk (ld1 S2 r3) S2 fun r4 =>
  pk (pfield r2 0 1) S2 fun r5 =>
  pk (ld1 S2 r5) S2 fun r6 =>
  pk (bin2 Try.prog .neq 2 r4 r6) S2 fun r7 =>
  ifA r7
  (some (AV.bool false, S2))
  (pk (pfield r1 1 1) S2 fun r8 =>
  pk (ld1 S2 r8) S2 fun r9 =>
  pk (pfield r2 1 1) S2 fun r10 =>
  pk (ld1 S2 r10) S2 fun r11 =>
  pk (bin2 Try.prog .neq 9 r9 r11) S2 fun r12 =>
  ifA r12
  (some (AV.bool false, S2))
  (pk (pfield r1 2 1) S2 fun r13 =>
  pk (ld1 S2 r13) S2 fun r14 =>
  pk (pfield r2 2 1) S2 fun r15 =>
  pk (ld1 S2 r15) S2 fun r16 =>
  pk (bin2 Try.prog .neq 2 r14 r16) S2 fun r17 =>
  ifA r17
  (some (AV.bool false, S2))
  (pk (pfield r1 3 1) S2 fun r18 =>
  pk (ld1 S2 r18) S2 fun r19 =>
  pk (pfield r2 3 1) S2 fun r20 =>
  pk (ld1 S2 r20) S2 fun r21 =>
  pk (bin2 Try.prog .neq 2 r19 r21) S2 fun r22 =>
  ifA r22
  (some (AV.bool false, S2))
  (pk (pfield r1 4 1) S2 fun r23 =>
  pk (ld1 S2 r23) S2 fun r24 =>
  pk (pfield r2 4 1) S2 fun r25 =>
  pk (ld1 S2 r25) S2 fun r26 =>
  pk (bin2 Try.prog .neq 4 r24 r26) S2 fun r27 =>
  ifA r27
  (some (AV.bool false, S2))
  (pk (pfield r1 5 1) S2 fun r28 =>
  pk (ld1 S2 r28) S2 fun r29 =>
  pk (pfield r2 5 1) S2 fun r30 =>
  pk (ld1 S2 r30) S2 fun r31 =>
  pk (bin2 Try.prog .neq 4 r29 r31) S2 fun r32 =>
  ifA r32
  (some (AV.bool false, S2))
  (some (AV.bool true, S2)))))))
theorem t144 (N d : Nat) (a0 a1 : AV) (S : St) : R N (d + 1) 144 [a0, a1] S = b144 (cfg N) (R N d) a0 a1 S := by unfold R; kernel_rfl
def s132_0 (C : Cfg) (run : RunT) (a0 : AV) (a1 : AV) (l : List AV) (S : St) : Option AOut :=
  pk (alen a0) S fun r4 =>
  pk (bin2 Try.prog .lss 3 ((gd l 1)) r4) S fun r5 =>
  ifA r5
  (pk (pindex 6 a0 ((gd l 1)) S) S fun r6 =>
  pk (ldA S r6 6) S fun r7 =>
  pk (pindex 6 a1 ((gd l 1)) S) S fun r8 =>
  pk (ldA S r8 6) S fun r9 =>
  pq (call0 run 144 [r7, r9] S) fun r10 =>
  pk (aun .not r10) S fun r11 =>
  ifA r11
  (some (AOut.ret [AV.bool false, (gd l 1)] S))
  (pk (abin Try.prog .add 3 ((gd l 1)) (AV.int .i64 1)) S fun r12 =>
  some (AOut.norm [(gd l 0), r12] S)))
  (some (AOut.exit 0 [(gd l 0), (gd l 1)] S))
def b132 (C : Cfg) (run : RunT) (a0 a1 : AV) (S : St) : OA :=
  pk (alen a0) S fun r1 =>
  pk (alen a1) S fun r2 =>
  pk (bin2 Try.prog .neq 3 r1 r2) S fun r3 =>
  ifA r3
  (some (AV.bool false, S))
  ((aloop (s132_0 C run a0 a1) C.N [AV.bool false, AV.int .i64 0] S).bind fun
  | AOut.norm _ _ => (none)
  | AOut.exit x13 l13 S13 => (if x13 = 0 then (some (AV.bool true, S13)) else (none))
  | AOut.ret l13 S13 => (some ((gd l13 0), S13)))
theorem t132 (N d : Nat) (a0 a1 : AV) (S : St) : R N (d + 1) 132 [a0, a1] S = b132 (cfg N) (R N d) a0 a1 S := by unfold R; kernel_rfl
def b124 (C : Cfg) (run : RunT) (a0 a1 : AV) (S : St) : OA :=
  pe (boxA a0 S) fun r1 S1 =>
  pe (boxA a1 S1) fun r2 S2 =>
  pk (pfield r1 0 1) S2 fun r3 =>
  pk (ld1 S2 r3) S2 fun r4 =>
  pk (pfield r2 0 1) S2 fun r5 =>
  pk (ld1 S2 r5) S2 fun r6 =>
  pk (bin2 Try.prog .neq 2 r4 r6) S2 fun r7 =>
  ifA r7
  (some (AV.bool false, S2))
  (pk (pfield r1 1 1) S2 fun r8 =>
  pk (ld1 S2 r8) S2 fun r9 =>
  pk (pfield r2 1 1) S2 fun r10 =>
  pk (ld1 S2 r10) S2 fun r11 =>
  pk (bin2 Try.prog .neq 2 r9 r11) S2 fun r12 =>
  ifA r12
  (some (AV.bool false, S2))
  (pk (pfield r1 2 1) S2 fun r13 =>
  pk (ld1 S2 r13) S2 fun r14 =>
  pk (pfield r2 2 1) S2 fun r15 =>
  pk (ld1 S2 r15) S2 fun r16 =>
  pk (bin2 Try.prog .neq 2 r14 r16) S2 fun r17 =>
  ifA r17
  (some (AV.bool false, S2))
  (pk (pfield r1 3 1) S2 fun r18 =>
  pk (ld1 S2 r18) S2 fun r19 =>
  pk (pfield r2 3 1) S2 fun r20 =>
  pk (ld1 S2 r20) S2 fun r21 =>
  pq (call0 run 132 [r19, r21] S2) fun r22 =>
  pk (aun .not r22) S2 fun r23 =>
  ifA r23
  (some (AV.bool false, S2))
  (some (AV.bool true, S2)))))
theorem t124 (N d : Nat) (a0 a1 : AV) (S : St) : R N (d + 1) 124 [a0, a1] S = b124 (cfg N) (R N d) a0 a1 S := by unfold R; kernel_rfl
def s102_0 (C : Cfg) (run : RunT) (a0 : AV) (a1 : AV) (l : List AV) (S : St) : Option AOut :=
  pk (alen a0) S fun r4 =>
  pk (bin2 Try.prog .lss 3 ((gd l 1)) r4) S fun r5 =>
  ifA r5
  (pk (pindex 4 a0 ((gd l 1)) S) S fun r6 =>
  pk (ldA S r6 4) S fun r7 =>
  pk (pindex 4 a1 ((gd l 1)) S) S fun r8 =>
  pk (ldA S r8 4) S fun r9 =>
  pq (call0 run 124 [r7, r9] S) fun r10 =>
  pk (aun .not r10) S fun r11 =>
  ifA r11
  (some (AOut.ret [AV.bool false, (gd l 1)] S))
  (pk (abin Try.prog .add 3 ((gd l 1)) (AV.int .i64 1)) S fun r12 =>
  some (AOut.norm [(gd l 0), r12] S)))
  (some (AOut.exit 0 [(gd l 0), (gd l 1)] S))
def b102 (C : Cfg) (run : RunT) (a0 a1 : AV) (S : St) : OA :=
  pk (alen a0) S fun r1 =>
  pk (alen a1) S fun r2 =>
  pk (bin2 Try.prog .neq 3 r1 r2) S fun r3 =>
  ifA r3
  (some (AV.bool false, S))
  ((aloop (s102_0 C run a0 a1) C.N [AV.bool false, AV.int .i64 0] S).bind fun
  | AOut.norm _ _ => (none)
  | AOut.exit x13 l13 S13 => (if x13 = 0 then (some (AV.bool true, S13)) else (none))
  | AOut.ret l13 S13 => (some ((gd l13 0), S13)))
theorem t102 (N d : Nat) (a0 a1 : AV) (S : St) : R N (d + 1) 102 [a0, a1] S = b102 (cfg N) (R N d) a0 a1 S := by unfold R; kernel_rfl
def b60 (C : Cfg) (run : RunT) (a0 a1 : AV) (S : St) : OA :=
  pe (boxA a0 S) fun r1 S1 =>
  pe (boxA a1 S1) fun r2 S2 =>
  pk (pfield r1 0 1) S2 fun r3 =>
  pk (ld1 S2 r3) S2 fun r4 =>
  pk (pfield r2 0 1) S2 fun r5 =>
  pk (ld1 S2 r5) S2 fun r6 =>
  pk (bin2 Try.prog .neq 2 r4 r6) S2 fun r7 =>
  ifA r7
  (some (AV.bool false, S2))
  (pk (pfield r1 1 1) S2 fun r8 =>
  pk (ld1 S2 r8) S2 fun r9 =>
  pk (pfield r2 1 1) S2 fun r10 =>
  pk (ld1 S2 r10) S2 fun r11 =>
  pq (call0 run 23 [r9, r11] S2) fun r12 =>
  pk (aun .not r12) S2 fun r13 =>
  ifA r13
  (some (AV.bool false, S2))
  (pk (pfield r1 2 1) S2 fun r14 =>
  pk (ld1 S2 r14) S2 fun r15 =>
  pk (pfield r2 2 1) S2 fun r16 =>
  pk (ld1 S2 r16) S2 fun r17 =>
  pq (call0 run 101 [r15, r17] S2) fun r18 =>
  pk (aun .not r18) S2 fun r19 =>
  ifA r19
  (some (AV.bool false, S2))
  (pk (pfield r1 3 1) S2 fun r20 =>
  pk (ld1 S2 r20) S2 fun r21 =>
  pk (pfield r2 3 1) S2 fun r22 =>
  pk (ld1 S2 r22) S2 fun r23 =>
  pq (call0 run 13 [r21, r23] S2) fun r24 =>
  pk (aun .not r24) S2 fun r25 =>
  ifA r25
  (some (AV.bool false, S2))
  (pk (pfield r1 4 1) S2 fun r26 =>
  pk (ld1 S2 r26) S2 fun r27 =>
  pk (pfield r2 4 1) S2 fun r28 =>
  pk (ld1 S2 r28) S2 fun r29 =>
  pq (call0 run 102 [r27, r29] S2) fun r30 =>
  pk (aun .not r30) S2 fun r31 =>
  ifA r31
  (some (AV.bool false, S2))
  (some (AV.bool true, S2))))))
theorem t60 (N d : Nat) (a0 a1 : AV) (S : St) : R N (d + 1) 60 [a0, a1] S = b60 (cfg N) (R N d) a0 a1 S := by unfold R; kernel_rfl
def b22 (C : Cfg) (run : RunT) (a0 a1 : AV) (S : St) : OA :=
  pe (boxA a0 S) fun r1 S1 =>
  pe (boxA a1 S1) fun r2 S2 =>
  pk (pfield r1 0 1) S2 fun r3 =>
  pk (ld1 S2 r3) S2 fun r4 =>
  pk (pfield r2 0 1) S2 fun r5 =>
  pk (ld1 S2 r5) S2 fun r6 =>
  pk (bin2 Try.prog .neq 2 r4 r6) S2 fun r7 =>
  ifA r7
  (some (AV.bool false, S2))
  (pk (pfield r1 1 5) S2 fun r8 =>
  pk (ldA S2 r8 5) S2 fun r9 =>
  pk (pfield r2 1 5) S2 fun r10 =>
  pk (ldA S2 r10 5) S2 fun r11 =>
  pq (call0 run 60 [r9, r11] S2) fun r12 =>
  pk (aun .not r12) S2 fun r13 =>
  ifA r13
  (some (AV.bool false, S2))
  (some (AV.bool true, S2)))
theorem t22 (N d : Nat) (a0 a1 : AV) (S : St) : R N (d + 1) 22 [a0, a1] S = b22 (cfg N) (R N d) a0 a1 S := by unfold R; kernel_rfl
def s24_0 (C : Cfg) (run : RunT) (a0 : AV) (l : List AV) (S : St) : Option AOut :=
  pk (alen a0) S fun r1 =>
  pk (bin2 Try.prog .lss 3 ((gd l 1)) r1) S fun r2 =>
  ifA r2
  (pk (pindex 1 a0 ((gd l 1)) S) S fun r3 =>
  pe (storeA 1 r3 ((gd l 0)) S) fun r4 S4 =>
  pk (abin Try.prog .add 3 ((gd l 0)) (AV.int .i64 1)) S4 fun r5 =>
  pk (abin Try.prog .add 3 ((gd l 1)) (AV.int .i64 1)) S4 fun r6 =>
  some (AOut.norm [r5, r6] S4))
  (some (AOut.exit 0 [(gd l 0), (gd l 1)] S))
def b24 (C : Cfg) (run : RunT) (a0 a1 : AV) (S : St) : OA :=
  (aloop (s24_0 C run a0) C.N [a1, AV.int .i64 0] S).bind fun
  | AOut.norm _ _ => (none)
  | AOut.exit x7 l7 S7 => (if x7 = 0 then (some ((gd l7 0), S7)) else (none))
  | AOut.ret l7 S7 => (some (AV.int .i64 0, S7))
theorem t24 (N d : Nat) (a0 a1 : AV) (S : St) : R N (d + 1) 24 [a0, a1] S = b24 (cfg N) (R N d) a0 a1 S := by unfold R; kernel_rfl
def s50_0 (C : Cfg) (run : RunT) (a0 : AV) (l : List AV) (S : St) : Option AOut :=
  pk (alen a0) S fun r1 =>
  pk (bin2 Try.prog .lss 3 ((gd l 1)) r1) S fun r2 =>
  ifA r2
  (pk (pindex 3 a0 ((gd l 1)) S) S fun r3 =>
  pk (pfield r3 0 1) S fun r4 =>
  pe (storeA 1 r4 ((gd l 0)) S) fun r5 S5 =>
  pk (abin Try.prog .add 3 ((gd l 0)) (AV.int .i64 1)) S5 fun r6 =>
  pk (pindex 3 a0 ((gd l 1)) S5) S5 fun r7 =>
  pk (pfield r7 1 1) S5 fun r8 =>
  pe (storeA 1 r8 r6 S5) fun r9 S9 =>
  pk (abin Try.prog .add 3 r6 (AV.int .i64 1)) S9 fun r10 =>
  pk (pindex 3 a0 ((gd l 1)) S9) S9 fun r11 =>
  pk (pfield r11 2 1) S9 fun r12 =>
  pe (storeA 1 r12 r10 S9) fun r13 S13 =>
  pk (abin Try.prog .add 3 r10 (AV.int .i64 1)) S13 fun r14 =>
  pk (abin Try.prog .add 3 ((gd l 1)) (AV.int .i64 1)) S13 fun r15 =>
  some (AOut.norm [r14, r15] S13))
  (some (AOut.exit 0 [(gd l 0), (gd l 1)] S))
def b50 (C : Cfg) (run : RunT) (a0 a1 : AV) (S : St) : OA :=
  (aloop (s50_0 C run a0) C.N [a1, AV.int .i64 0] S).bind fun
  | AOut.norm _ _ => (none)
  | AOut.exit x16 l16 S16 => (if x16 = 0 then (some ((gd l16 0), S16)) else (none))
  | AOut.ret l16 S16 => (some (AV.int .i64 0, S16))
theorem t50 (N d : Nat) (a0 a1 : AV) (S : St) : R N (d + 1) 50 [a0, a1] S = b50 (cfg N) (R N d) a0 a1 S := by unfold R; kernel_rfl
def s15_0 (C : Cfg) (run : RunT) (a0 : AV) (l : List AV) (S : St) : Option AOut :=
  pk (alen a0) S fun r1 =>
  pk (bin2 Try.prog .lss 3 ((gd l 1)) r1) S fun r2 =>
  ifA r2
  (pk (pindex 7 a0 ((gd l 1)) S) S fun r3 =>
  pk (pfield r3 0 1) S fun r4 =>
  pe (storeA 1 r4 ((gd l 0)) S) fun r5 S5 =>
  pk (abin Try.prog .add 3 ((gd l 0)) (AV.int .i64 1)) S5 fun r6 =>
  pk (pindex 7 a0 ((gd l 1)) S5) S5 fun r7 =>
  pk (pfield r7 1 1) S5 fun r8 =>
  pe (storeA 1 r8 r6 S5) fun r9 S9 =>
  pk (abin Try.prog .add 3 r6 (AV.int .i64 1)) S9 fun r10 =>
  pk (pindex 7 a0 ((gd l 1)) S9) S9 fun r11 =>
  pk (pfield r11 2 1) S9 fun r12 =>
  pe (storeA 1 r12 r10 S9) fun r13 S13 =>
  pk (abin Try.prog .add 3 r10 (AV.int .i64 1)) S13 fun r14 =>
  pk (pindex 7 a0 ((gd l 1)) S13) S13 fun r15 =>
  pk (pfield r15 3 1) S13 fun r16 =>
  pe (storeA 1 r16 r14 S13) fun r17 S17 =>
  pk (abin Try.prog .add 3 r14 (AV.int .i64 1)) S17 fun r18 =>
  pk (pindex 7 a0 ((gd l 1)) S17) S17 fun r19 =>
  pk (pfield r19 4 1) S17 fun r20 =>
  pe (storeA 1 r20 r18 S17) fun r21 S21 =>
  pk (abin Try.prog .add 3 r18 (AV.int .i64 1)) S21 fun r22 =>
  pk (pindex 7 a0 ((gd l 1)) S21) S21 fun r23 =>
  pk (pfield r23 5 1) S21 fun r24 =>
  pk (ld1 S21 r24) S21 fun r25 =>
  pe (callS run 50 [r25, r22] S21) fun r26 S26 =>
  pk (pindex 7 a0 ((gd l 1)) S26) S26 fun r27 =>
  pk (pfield r27 6 1) S26 fun r28 =>
  pk (ld1 S26 r28) S26 fun r29 =>
  pe (callS run 24 [r29, r26] S26) fun r30 S30 =>
  pk (abin Try.prog .add 3 ((gd l 1)) (AV.int .i64 1)) S30 fun r31 =>
  some (AOut.norm [r30, r31] S30))
  (some (AOut.exit 0 [(gd l 0), (gd l 1)] S))
def b15 (C : Cfg) (run : RunT) (a0 a1 : AV) (S : St) : OA :=
  (aloop (s15_0 C run a0) C.N [a1, AV.int .i64 0] S).bind fun
  | AOut.norm _ _ => (none)
  | AOut.exit x32 l32 S32 => (if x32 = 0 then (some ((gd l32 0), S32)) else (none))
  | AOut.ret l32 S32 => (some (AV.int .i64 0, S32))
theorem t15 (N d : Nat) (a0 a1 : AV) (S : St) : R N (d + 1) 15 [a0, a1] S = b15 (cfg N) (R N d) a0 a1 S := by unfold R; kernel_rfl
def s103_0 (C : Cfg) (run : RunT) (a0 : AV) (l : List AV) (S : St) : Option AOut :=
  pk (alen a0) S fun r1 =>
  pk (bin2 Try.prog .lss 3 ((gd l 1)) r1) S fun r2 =>
  ifA r2
  (pk (pindex 4 a0 ((gd l 1)) S) S fun r3 =>
  pk (pfield r3 0 1) S fun r4 =>
  pe (storeA 1 r4 ((gd l 0)) S) fun r5 S5 =>
  pk (abin Try.prog .add 3 ((gd l 0)) (AV.int .i64 1)) S5 fun r6 =>
  pk (pindex 4 a0 ((gd l 1)) S5) S5 fun r7 =>
  pk (pfield r7 1 1) S5 fun r8 =>
  pe (storeA 1 r8 r6 S5) fun r9 S9 =>
  pk (abin Try.prog .add 3 r6 (AV.int .i64 1)) S9 fun r10 =>
  pk (pindex 4 a0 ((gd l 1)) S9) S9 fun r11 =>
  pk (pfield r11 2 1) S9 fun r12 =>
  pe (storeA 1 r12 r10 S9) fun r13 S13 =>
  pk (abin Try.prog .add 3 r10 (AV.int .i64 1)) S13 fun r14 =>
  pk (pindex 4 a0 ((gd l 1)) S13) S13 fun r15 =>
  pk (pfield r15 3 1) S13 fun r16 =>
  pe (storeA 1 r16 r14 S13) fun r17 S17 =>
  pk (abin Try.prog .add 3 r14 (AV.int .i64 1)) S17 fun r18 =>
  pk (abin Try.prog .add 3 ((gd l 1)) (AV.int .i64 1)) S17 fun r19 =>
  some (AOut.norm [r18, r19] S17))
  (some (AOut.exit 0 [(gd l 0), (gd l 1)] S))
def b103 (C : Cfg) (run : RunT) (a0 a1 : AV) (S : St) : OA :=
  (aloop (s103_0 C run a0) C.N [a1, AV.int .i64 0] S).bind fun
  | AOut.norm _ _ => (none)
  | AOut.exit x20 l20 S20 => (if x20 = 0 then (some ((gd l20 0), S20)) else (none))
  | AOut.ret l20 S20 => (some (AV.int .i64 0, S20))
theorem t103 (N d : Nat) (a0 a1 : AV) (S : St) : R N (d + 1) 103 [a0, a1] S = b103 (cfg N) (R N d) a0 a1 S := by unfold R; kernel_rfl
def s70_0 (C : Cfg) (run : RunT)  (l : List AV) (S : St) : Option AOut :=
  pk (abin Try.prog .gtr 3 ((gd l 0)) (AV.int .i64 0)) S fun r2 =>
  ifA r2
  (pk (abin Try.prog .rem 3 ((gd l 0)) (AV.int .i64 10)) S fun r3 =>
  pk (abin Try.prog .add 3 (AV.int .i64 48) r3) S fun r4 =>
  pk (aconv Try.prog 3 5 r4 S) S fun r5 =>
  pe (abuildS Try.prog 137 1 [(0, r5)] S) fun r6 S6 =>
  pk (aconv Try.prog 137 9 r6 S6) S6 fun r7 =>
  pk (bin2 Try.prog .add 9 r7 ((gd l 1))) S6 fun r8 =>
  pk (abin Try.prog .quo 3 ((gd l 0)) (AV.int .i64 10)) S6 fun r9 =>
  some (AOut.norm [r9, r8] S6))
  (some (AOut.exit 0 [(gd l 0), (gd l 1)] S))
def b70 (C : Cfg) (run : RunT) (a0 : AV) (S : St) : OA :=
  pk (abin Try.prog .leq 3 a0 (AV.int .i64 0)) S fun r1 =>
  ifA r1
  (some (AV.str ⟨#[109, 48]⟩, S))
  ((aloop (s70_0 C run) C.N [a0, AV.str ⟨#[]⟩] S).bind fun
  | AOut.norm _ _ => (none)
  | AOut.exit x10 l10 S10 => (if x10 = 0 then (pk (abin Try.prog .add 9 (AV.str ⟨#[109]⟩) ((gd l10 1))) S10 fun r11 =>
  some (r11, S10)) else (none))
  | AOut.ret l10 S10 => (some (AV.str ⟨#[]⟩, S10)))
theorem t70 (N d : Nat) (a0 : AV) (S : St) : R N (d + 1) 70 [a0] S = b70 (cfg N) (R N d) a0 S := by unfold R; kernel_rfl
def s125_0 (C : Cfg) (run : RunT) (a0 : AV) (l : List AV) (S : St) : Option AOut :=
  pk (alen a0) S fun r1 =>
  pk (bin2 Try.prog .lss 3 ((gd l 1)) r1) S fun r2 =>
  ifA r2
  (pk (pindex 6 a0 ((gd l 1)) S) S fun r3 =>
  pk (pfield r3 0 1) S fun r4 =>
  pe (storeA 1 r4 ((gd l 0)) S) fun r5 S5 =>
  pk (abin Try.prog .add 3 ((gd l 0)) (AV.int .i64 1)) S5 fun r6 =>
  pq (call0 run 70 [r6] S5) fun r7 =>
  pk (pindex 6 a0 ((gd l 1)) S5) S5 fun r8 =>
  pk (pfield r8 1 1) S5 fun r9 =>
  pe (storeA 1 r9 r7 S5) fun r10 S10 =>
  pk (abin Try.prog .add 3 r6 (AV.int .i64 1)) S10 fun r11 =>
  pk (pindex 6 a0 ((gd l 1)) S10) S10 fun r12 =>
  pk (pfield r12 2 1) S10 fun r13 =>
  pe (storeA 1 r13 r11 S10) fun r14 S14 =>
  pk (abin Try.prog .add 3 r11 (AV.int .i64 1)) S14 fun r15 =>
  pk (pindex 6 a0 ((gd l 1)) S14) S14 fun r16 =>
  pk (pfield r16 3 1) S14 fun r17 =>
  pe (storeA 1 r17 r15 S14) fun r18 S18 =>
  pk (abin Try.prog .add 3 r15 (AV.int .i64 1)) S18 fun r19 =>
  pk (abin Try.prog .rem 3 r19 (AV.int .i64 3)) S18 fun r20 =>
  pk (abin Try.prog .eql 3 r20 (AV.int .i64 0)) S18 fun r21 =>
  pk (pindex 6 a0 ((gd l 1)) S18) S18 fun r22 =>
  pk (pfield r22 4 1) S18 fun r23 =>
  pe (storeA 1 r23 r21 S18) fun r24 S24 =>
  pk (abin Try.prog .add 3 r19 (AV.int .i64 1)) S24 fun r25 =>
  pk (abin Try.prog .rem 3 r25 (AV.int .i64 3)) S24 fun r26 =>
  pk (abin Try.prog .eql 3 r26 (AV.int .i64 0)) S24 fun r27 =>
  pk (pindex 6 a0 ((gd l 1)) S24) S24 fun r28 =>
  pk (pfield r28 5 1) S24 fun r29 =>
  pe (storeA 1 r29 r27 S24) fun r30 S30 =>
  pk (abin Try.prog .add 3 r25 (AV.int .i64 1)) S30 fun r31 =>
  pk (abin Try.prog .add 3 ((gd l 1)) (AV.int .i64 1)) S30 fun r32 =>
  some (AOut.norm [r31, r32] S30))
  (some (AOut.exit 0 [(gd l 0), (gd l 1)] S))
def b125 (C : Cfg) (run : RunT) (a0 a1 : AV) (S : St) : OA :=
  (aloop (s125_0 C run a0) C.N [a1, AV.int .i64 0] S).bind fun
  | AOut.norm _ _ => (none)
  | AOut.exit x33 l33 S33 => (if x33 = 0 then (some ((gd l33 0), S33)) else (none))
  | AOut.ret l33 S33 => (some (AV.int .i64 0, S33))
theorem t125 (N d : Nat) (a0 a1 : AV) (S : St) : R N (d + 1) 125 [a0, a1] S = b125 (cfg N) (R N d) a0 a1 S := by unfold R; kernel_rfl
def s104_0 (C : Cfg) (run : RunT) (a0 : AV) (l : List AV) (S : St) : Option AOut :=
  pk (alen a0) S fun r1 =>
  pk (bin2 Try.prog .lss 3 ((gd l 1)) r1) S fun r2 =>
  ifA r2
  (pk (pindex 4 a0 ((gd l 1)) S) S fun r3 =>
  pk (pfield r3 0 1) S fun r4 =>
  pe (storeA 1 r4 ((gd l 0)) S) fun r5 S5 =>
  pk (abin Try.prog .add 3 ((gd l 0)) (AV.int .i64 1)) S5 fun r6 =>
  pk (pindex 4 a0 ((gd l 1)) S5) S5 fun r7 =>
  pk (pfield r7 1 1) S5 fun r8 =>
  pe (storeA 1 r8 r6 S5) fun r9 S9 =>
  pk (abin Try.prog .add 3 r6 (AV.int .i64 1)) S9 fun r10 =>
  pk (pindex 4 a0 ((gd l 1)) S9) S9 fun r11 =>
  pk (pfield r11 2 1) S9 fun r12 =>
  pe (storeA 1 r12 r10 S9) fun r13 S13 =>
  pk (abin Try.prog .add 3 r10 (AV.int .i64 1)) S13 fun r14 =>
  pk (pindex 4 a0 ((gd l 1)) S13) S13 fun r15 =>
  pk (pfield r15 3 1) S13 fun r16 =>
  pk (ld1 S13 r16) S13 fun r17 =>
  pe (callS run 125 [r17, r14] S13) fun r18 S18 =>
  pk (abin Try.prog .add 3 ((gd l 1)) (AV.int .i64 1)) S18 fun r19 =>
  some (AOut.norm [r18, r19] S18))
  (some (AOut.exit 0 [(gd l 0), (gd l 1)] S))
def b104 (C : Cfg) (run : RunT) (a0 a1 : AV) (S : St) : OA :=
  (aloop (s104_0 C run a0) C.N [a1, AV.int .i64 0] S).bind fun
  | AOut.norm _ _ => (none)
  | AOut.exit x20 l20 S20 => (if x20 = 0 then (some ((gd l20 0), S20)) else (none))
  | AOut.ret l20 S20 => (some (AV.int .i64 0, S20))
theorem t104 (N d : Nat) (a0 a1 : AV) (S : St) : R N (d + 1) 104 [a0, a1] S = b104 (cfg N) (R N d) a0 a1 S := by unfold R; kernel_rfl
def b61 (C : Cfg) (run : RunT) (a0 a1 : AV) (S : St) : OA :=
  pe (boxA a0 S) fun r1 S1 =>
  pk (pfield r1 1 1) S1 fun r2 =>
  pk (ld1 S1 r2) S1 fun r3 =>
  pe (callS run 24 [r3, a1] S1) fun r4 S4 =>
  pk (pfield r1 2 1) S4 fun r5 =>
  pk (ld1 S4 r5) S4 fun r6 =>
  pe (callS run 103 [r6, r4] S4) fun r7 S7 =>
  pk (pfield r1 3 1) S7 fun r8 =>
  pk (ld1 S7 r8) S7 fun r9 =>
  pe (callS run 15 [r9, r7] S7) fun r10 S10 =>
  pk (pfield r1 4 1) S10 fun r11 =>
  pk (ld1 S10 r11) S10 fun r12 =>
  pe (callS run 104 [r12, r10] S10) fun r13 S13 =>
  some (r13, S13)
theorem t61 (N d : Nat) (a0 a1 : AV) (S : St) : R N (d + 1) 61 [a0, a1] S = b61 (cfg N) (R N d) a0 a1 S := by unfold R; kernel_rfl
def b25 (C : Cfg) (run : RunT) (a0 a1 : AV) (S : St) : OA :=
  pe (boxA a0 S) fun r1 S1 =>
  pk (pfield r1 1 5) S1 fun r2 =>
  pk (ldA S1 r2 5) S1 fun r3 =>
  pe (callS run 61 [r3, a1] S1) fun r4 S4 =>
  some (r4, S4)
theorem t25 (N d : Nat) (a0 a1 : AV) (S : St) : R N (d + 1) 25 [a0, a1] S = b25 (cfg N) (R N d) a0 a1 S := by unfold R; kernel_rfl
def s71_0 (C : Cfg) (run : RunT) (a0 : AV) (l : List AV) (S : St) : Option AOut :=
  pk (alen a0) S fun r1 =>
  pk (bin2 Try.prog .lss 3 ((gd l 2)) r1) S fun r2 =>
  ifA r2
  (pk (pindex 1 a0 ((gd l 2)) S) S fun r3 =>
  pk (ld1 S r3) S fun r4 =>
  pk (bin2 Try.prog .neq 2 r4 ((gd l 0))) S fun r5 =>
  ifA r5
  (some (AOut.ret [(gd l 0), AV.int .i64 (-1), (gd l 2)] S))
  (pk (abin Try.prog .add 3 ((gd l 0)) (AV.int .i64 1)) S fun r6 =>
  pk (abin Try.prog .add 3 ((gd l 2)) (AV.int .i64 1)) S fun r7 =>
  some (AOut.norm [r6, (gd l 1), r7] S)))
  (some (AOut.exit 0 [(gd l 0), (gd l 1), (gd l 2)] S))
def b71 (C : Cfg) (run : RunT) (a0 a1 : AV) (S : St) : OA :=
  (aloop (s71_0 C run a0) C.N [a1, AV.int .i64 0, AV.int .i64 0] S).bind fun
  | AOut.norm _ _ => (none)
  | AOut.exit x8 l8 S8 => (if x8 = 0 then (some ((gd l8 0), S8)) else (none))
  | AOut.ret l8 S8 => (some ((gd l8 1), S8))
theorem t71 (N d : Nat) (a0 a1 : AV) (S : St) : R N (d + 1) 71 [a0, a1] S = b71 (cfg N) (R N d) a0 a1 S := by unfold R; kernel_rfl
def s97_0 (C : Cfg) (run : RunT) (a0 : AV) (l : List AV) (S : St) : Option AOut :=
  pk (alen a0) S fun r1 =>
  pk (bin2 Try.prog .lss 3 ((gd l 2)) r1) S fun r2 =>
  ifA r2
  (pk (pindex 3 a0 ((gd l 2)) S) S fun r3 =>
  pk (pfield r3 0 1) S fun r4 =>
  pk (ld1 S r4) S fun r5 =>
  pk (bin2 Try.prog .neq 2 r5 ((gd l 0))) S fun r6 =>
  ifA r6
  (some (AOut.ret [(gd l 0), AV.int .i64 (-1), (gd l 2)] S))
  (pk (abin Try.prog .add 3 ((gd l 0)) (AV.int .i64 1)) S fun r7 =>
  pk (pindex 3 a0 ((gd l 2)) S) S fun r8 =>
  pk (pfield r8 1 1) S fun r9 =>
  pk (ld1 S r9) S fun r10 =>
  pk (bin2 Try.prog .neq 2 r10 r7) S fun r11 =>
  ifA r11
  (some (AOut.ret [r7, AV.int .i64 (-1), (gd l 2)] S))
  (pk (abin Try.prog .add 3 r7 (AV.int .i64 1)) S fun r12 =>
  pk (pindex 3 a0 ((gd l 2)) S) S fun r13 =>
  pk (pfield r13 2 1) S fun r14 =>
  pk (ld1 S r14) S fun r15 =>
  pk (bin2 Try.prog .neq 2 r15 r12) S fun r16 =>
  ifA r16
  (some (AOut.ret [r12, AV.int .i64 (-1), (gd l 2)] S))
  (pk (abin Try.prog .add 3 r12 (AV.int .i64 1)) S fun r17 =>
  pk (abin Try.prog .add 3 ((gd l 2)) (AV.int .i64 1)) S fun r18 =>
  some (AOut.norm [r17, (gd l 1), r18] S)))))
  (some (AOut.exit 0 [(gd l 0), (gd l 1), (gd l 2)] S))
def b97 (C : Cfg) (run : RunT) (a0 a1 : AV) (S : St) : OA :=
  (aloop (s97_0 C run a0) C.N [a1, AV.int .i64 0, AV.int .i64 0] S).bind fun
  | AOut.norm _ _ => (none)
  | AOut.exit x19 l19 S19 => (if x19 = 0 then (some ((gd l19 0), S19)) else (none))
  | AOut.ret l19 S19 => (some ((gd l19 1), S19))
theorem t97 (N d : Nat) (a0 a1 : AV) (S : St) : R N (d + 1) 97 [a0, a1] S = b97 (cfg N) (R N d) a0 a1 S := by unfold R; kernel_rfl
def s51_0 (C : Cfg) (run : RunT) (a0 : AV) (l : List AV) (S : St) : Option AOut :=
  pk (alen a0) S fun r1 =>
  pk (bin2 Try.prog .lss 3 ((gd l 2)) r1) S fun r2 =>
  ifA r2
  (pk (pindex 7 a0 ((gd l 2)) S) S fun r3 =>
  pk (pfield r3 0 1) S fun r4 =>
  pk (ld1 S r4) S fun r5 =>
  pk (bin2 Try.prog .neq 2 r5 ((gd l 0))) S fun r6 =>
  ifA r6
  (some (AOut.ret [(gd l 0), AV.int .i64 (-1), (gd l 2)] S))
  (pk (abin Try.prog .add 3 ((gd l 0)) (AV.int .i64 1)) S fun r7 =>
  pk (pindex 7 a0 ((gd l 2)) S) S fun r8 =>
  pk (pfield r8 1 1) S fun r9 =>
  pk (ld1 S r9) S fun r10 =>
  pk (bin2 Try.prog .neq 2 r10 r7) S fun r11 =>
  ifA r11
  (some (AOut.ret [r7, AV.int .i64 (-1), (gd l 2)] S))
  (pk (abin Try.prog .add 3 r7 (AV.int .i64 1)) S fun r12 =>
  pk (pindex 7 a0 ((gd l 2)) S) S fun r13 =>
  pk (pfield r13 2 1) S fun r14 =>
  pk (ld1 S r14) S fun r15 =>
  pk (bin2 Try.prog .neq 2 r15 r12) S fun r16 =>
  ifA r16
  (some (AOut.ret [r12, AV.int .i64 (-1), (gd l 2)] S))
  (pk (abin Try.prog .add 3 r12 (AV.int .i64 1)) S fun r17 =>
  pk (pindex 7 a0 ((gd l 2)) S) S fun r18 =>
  pk (pfield r18 3 1) S fun r19 =>
  pk (ld1 S r19) S fun r20 =>
  pk (bin2 Try.prog .neq 2 r20 r17) S fun r21 =>
  ifA r21
  (some (AOut.ret [r17, AV.int .i64 (-1), (gd l 2)] S))
  (pk (abin Try.prog .add 3 r17 (AV.int .i64 1)) S fun r22 =>
  pk (pindex 7 a0 ((gd l 2)) S) S fun r23 =>
  pk (pfield r23 4 1) S fun r24 =>
  pk (ld1 S r24) S fun r25 =>
  pk (bin2 Try.prog .neq 2 r25 r22) S fun r26 =>
  ifA r26
  (some (AOut.ret [r22, AV.int .i64 (-1), (gd l 2)] S))
  (pk (abin Try.prog .add 3 r22 (AV.int .i64 1)) S fun r27 =>
  pk (pindex 7 a0 ((gd l 2)) S) S fun r28 =>
  pk (pfield r28 5 1) S fun r29 =>
  pk (ld1 S r29) S fun r30 =>
  pq (call0 run 97 [r30, r27] S) fun r31 =>
  pk (abin Try.prog .lss 3 r31 (AV.int .i64 0)) S fun r32 =>
  ifA r32
  (some (AOut.ret [r31, AV.int .i64 (-1), (gd l 2)] S))
  (pk (pindex 7 a0 ((gd l 2)) S) S fun r33 =>
  pk (pfield r33 6 1) S fun r34 =>
  pk (ld1 S r34) S fun r35 =>
  pq (call0 run 71 [r35, r31] S) fun r36 =>
  pk (abin Try.prog .lss 3 r36 (AV.int .i64 0)) S fun r37 =>
  ifA r37
  (some (AOut.ret [r36, AV.int .i64 (-1), (gd l 2)] S))
  (pk (abin Try.prog .add 3 ((gd l 2)) (AV.int .i64 1)) S fun r38 =>
  some (AOut.norm [r36, (gd l 1), r38] S)))))))))
  (some (AOut.exit 0 [(gd l 0), (gd l 1), (gd l 2)] S))
def b51 (C : Cfg) (run : RunT) (a0 a1 : AV) (S : St) : OA :=
  (aloop (s51_0 C run a0) C.N [a1, AV.int .i64 0, AV.int .i64 0] S).bind fun
  | AOut.norm _ _ => (none)
  | AOut.exit x39 l39 S39 => (if x39 = 0 then (some ((gd l39 0), S39)) else (none))
  | AOut.ret l39 S39 => (some ((gd l39 1), S39))
theorem t51 (N d : Nat) (a0 a1 : AV) (S : St) : R N (d + 1) 51 [a0, a1] S = b51 (cfg N) (R N d) a0 a1 S := by unfold R; kernel_rfl
def s105_0 (C : Cfg) (run : RunT) (a0 : AV) (l : List AV) (S : St) : Option AOut :=
  pk (alen a0) S fun r1 =>
  pk (bin2 Try.prog .lss 3 ((gd l 2)) r1) S fun r2 =>
  ifA r2
  (pk (pindex 4 a0 ((gd l 2)) S) S fun r3 =>
  pk (pfield r3 0 1) S fun r4 =>
  pk (ld1 S r4) S fun r5 =>
  pk (bin2 Try.prog .neq 2 r5 ((gd l 0))) S fun r6 =>
  ifA r6
  (some (AOut.ret [(gd l 0), AV.int .i64 (-1), (gd l 2)] S))
  (pk (abin Try.prog .add 3 ((gd l 0)) (AV.int .i64 1)) S fun r7 =>
  pk (pindex 4 a0 ((gd l 2)) S) S fun r8 =>
  pk (pfield r8 1 1) S fun r9 =>
  pk (ld1 S r9) S fun r10 =>
  pk (bin2 Try.prog .neq 2 r10 r7) S fun r11 =>
  ifA r11
  (some (AOut.ret [r7, AV.int .i64 (-1), (gd l 2)] S))
  (pk (abin Try.prog .add 3 r7 (AV.int .i64 1)) S fun r12 =>
  pk (pindex 4 a0 ((gd l 2)) S) S fun r13 =>
  pk (pfield r13 2 1) S fun r14 =>
  pk (ld1 S r14) S fun r15 =>
  pk (bin2 Try.prog .neq 2 r15 r12) S fun r16 =>
  ifA r16
  (some (AOut.ret [r12, AV.int .i64 (-1), (gd l 2)] S))
  (pk (abin Try.prog .add 3 r12 (AV.int .i64 1)) S fun r17 =>
  pk (pindex 4 a0 ((gd l 2)) S) S fun r18 =>
  pk (pfield r18 3 1) S fun r19 =>
  pk (ld1 S r19) S fun r20 =>
  pk (bin2 Try.prog .neq 2 r20 r17) S fun r21 =>
  ifA r21
  (some (AOut.ret [r17, AV.int .i64 (-1), (gd l 2)] S))
  (pk (abin Try.prog .add 3 r17 (AV.int .i64 1)) S fun r22 =>
  pk (abin Try.prog .add 3 ((gd l 2)) (AV.int .i64 1)) S fun r23 =>
  some (AOut.norm [r22, (gd l 1), r23] S))))))
  (some (AOut.exit 0 [(gd l 0), (gd l 1), (gd l 2)] S))
def b105 (C : Cfg) (run : RunT) (a0 a1 : AV) (S : St) : OA :=
  (aloop (s105_0 C run a0) C.N [a1, AV.int .i64 0, AV.int .i64 0] S).bind fun
  | AOut.norm _ _ => (none)
  | AOut.exit x24 l24 S24 => (if x24 = 0 then (some ((gd l24 0), S24)) else (none))
  | AOut.ret l24 S24 => (some ((gd l24 1), S24))
theorem t105 (N d : Nat) (a0 a1 : AV) (S : St) : R N (d + 1) 105 [a0, a1] S = b105 (cfg N) (R N d) a0 a1 S := by unfold R; kernel_rfl
def s126_0 (C : Cfg) (run : RunT) (a0 : AV) (l : List AV) (S : St) : Option AOut :=
  pk (alen a0) S fun r1 =>
  pk (bin2 Try.prog .lss 3 ((gd l 2)) r1) S fun r2 =>
  ifA r2
  (pk (pindex 6 a0 ((gd l 2)) S) S fun r3 =>
  pk (pfield r3 0 1) S fun r4 =>
  pk (ld1 S r4) S fun r5 =>
  pk (bin2 Try.prog .neq 2 r5 ((gd l 0))) S fun r6 =>
  ifA r6
  (some (AOut.ret [(gd l 0), AV.int .i64 (-1), (gd l 2)] S))
  (pk (abin Try.prog .add 3 ((gd l 0)) (AV.int .i64 1)) S fun r7 =>
  pk (pindex 6 a0 ((gd l 2)) S) S fun r8 =>
  pk (pfield r8 1 1) S fun r9 =>
  pk (ld1 S r9) S fun r10 =>
  pq (call0 run 70 [r7] S) fun r11 =>
  pk (bin2 Try.prog .neq 9 r10 r11) S fun r12 =>
  ifA r12
  (some (AOut.ret [r7, AV.int .i64 (-1), (gd l 2)] S))
  (pk (abin Try.prog .add 3 r7 (AV.int .i64 1)) S fun r13 =>
  pk (pindex 6 a0 ((gd l 2)) S) S fun r14 =>
  pk (pfield r14 2 1) S fun r15 =>
  pk (ld1 S r15) S fun r16 =>
  pk (bin2 Try.prog .neq 2 r16 r13) S fun r17 =>
  ifA r17
  (some (AOut.ret [r13, AV.int .i64 (-1), (gd l 2)] S))
  (pk (abin Try.prog .add 3 r13 (AV.int .i64 1)) S fun r18 =>
  pk (pindex 6 a0 ((gd l 2)) S) S fun r19 =>
  pk (pfield r19 3 1) S fun r20 =>
  pk (ld1 S r20) S fun r21 =>
  pk (bin2 Try.prog .neq 2 r21 r18) S fun r22 =>
  ifA r22
  (some (AOut.ret [r18, AV.int .i64 (-1), (gd l 2)] S))
  (pk (abin Try.prog .add 3 r18 (AV.int .i64 1)) S fun r23 =>
  pk (pindex 6 a0 ((gd l 2)) S) S fun r24 =>
  pk (pfield r24 4 1) S fun r25 =>
  pk (ld1 S r25) S fun r26 =>
  pk (abin Try.prog .rem 3 r23 (AV.int .i64 3)) S fun r27 =>
  pk (abin Try.prog .eql 3 r27 (AV.int .i64 0)) S fun r28 =>
  pk (bin2 Try.prog .neq 4 r26 r28) S fun r29 =>
  ifA r29
  (some (AOut.ret [r23, AV.int .i64 (-1), (gd l 2)] S))
  (pk (abin Try.prog .add 3 r23 (AV.int .i64 1)) S fun r30 =>
  pk (pindex 6 a0 ((gd l 2)) S) S fun r31 =>
  pk (pfield r31 5 1) S fun r32 =>
  pk (ld1 S r32) S fun r33 =>
  pk (abin Try.prog .rem 3 r30 (AV.int .i64 3)) S fun r34 =>
  pk (abin Try.prog .eql 3 r34 (AV.int .i64 0)) S fun r35 =>
  pk (bin2 Try.prog .neq 4 r33 r35) S fun r36 =>
  ifA r36
  (some (AOut.ret [r30, AV.int .i64 (-1), (gd l 2)] S))
  (pk (abin Try.prog .add 3 r30 (AV.int .i64 1)) S fun r37 =>
  pk (abin Try.prog .add 3 ((gd l 2)) (AV.int .i64 1)) S fun r38 =>
  some (AOut.norm [r37, (gd l 1), r38] S))))))))
  (some (AOut.exit 0 [(gd l 0), (gd l 1), (gd l 2)] S))
def b126 (C : Cfg) (run : RunT) (a0 a1 : AV) (S : St) : OA :=
  (aloop (s126_0 C run a0) C.N [a1, AV.int .i64 0, AV.int .i64 0] S).bind fun
  | AOut.norm _ _ => (none)
  | AOut.exit x39 l39 S39 => (if x39 = 0 then (some ((gd l39 0), S39)) else (none))
  | AOut.ret l39 S39 => (some ((gd l39 1), S39))
theorem t126 (N d : Nat) (a0 a1 : AV) (S : St) : R N (d + 1) 126 [a0, a1] S = b126 (cfg N) (R N d) a0 a1 S := by unfold R; kernel_rfl
def s106_0 (C : Cfg) (run : RunT) (a0 : AV) (l : List AV) (S : St) : Option AOut :=
  pk (alen a0) S fun r1 =>
  pk (bin2 Try.prog .lss 3 ((gd l 2)) r1) S fun r2 =>
  ifA r2
  (pk (pindex 4 a0 ((gd l 2)) S) S fun r3 =>
  pk (pfield r3 0 1) S fun r4 =>
  pk (ld1 S r4) S fun r5 =>
  pk (bin2 Try.prog .neq 2 r5 ((gd l 0))) S fun r6 =>
  ifA r6
  (some (AOut.ret [(gd l 0), AV.int .i64 (-1), (gd l 2)] S))
  (pk (abin Try.prog .add 3 ((gd l 0)) (AV.int .i64 1)) S fun r7 =>
  pk (pindex 4 a0 ((gd l 2)) S) S fun r8 =>
  pk (pfield r8 1 1) S fun r9 =>
  pk (ld1 S r9) S fun r10 =>
  pk (bin2 Try.prog .neq 2 r10 r7) S fun r11 =>
  ifA r11
  (some (AOut.ret [r7, AV.int .i64 (-1), (gd l 2)] S))
  (pk (abin Try.prog .add 3 r7 (AV.int .i64 1)) S fun r12 =>
  pk (pindex 4 a0 ((gd l 2)) S) S fun r13 =>
  pk (pfield r13 2 1) S fun r14 =>
  pk (ld1 S r14) S fun r15 =>
  pk (bin2 Try.prog .neq 2 r15 r12) S fun r16 =>
  ifA r16
  (some (AOut.ret [r12, AV.int .i64 (-1), (gd l 2)] S))
  (pk (abin Try.prog .add 3 r12 (AV.int .i64 1)) S fun r17 =>
  pk (pindex 4 a0 ((gd l 2)) S) S fun r18 =>
  pk (pfield r18 3 1) S fun r19 =>
  pk (ld1 S r19) S fun r20 =>
  pq (call0 run 126 [r20, r17] S) fun r21 =>
  pk (abin Try.prog .lss 3 r21 (AV.int .i64 0)) S fun r22 =>
  ifA r22
  (some (AOut.ret [r21, AV.int .i64 (-1), (gd l 2)] S))
  (pk (abin Try.prog .add 3 ((gd l 2)) (AV.int .i64 1)) S fun r23 =>
  some (AOut.norm [r21, (gd l 1), r23] S))))))
  (some (AOut.exit 0 [(gd l 0), (gd l 1), (gd l 2)] S))
def b106 (C : Cfg) (run : RunT) (a0 a1 : AV) (S : St) : OA :=
  (aloop (s106_0 C run a0) C.N [a1, AV.int .i64 0, AV.int .i64 0] S).bind fun
  | AOut.norm _ _ => (none)
  | AOut.exit x24 l24 S24 => (if x24 = 0 then (some ((gd l24 0), S24)) else (none))
  | AOut.ret l24 S24 => (some ((gd l24 1), S24))
theorem t106 (N d : Nat) (a0 a1 : AV) (S : St) : R N (d + 1) 106 [a0, a1] S = b106 (cfg N) (R N d) a0 a1 S := by unfold R; kernel_rfl
def b62 (C : Cfg) (run : RunT) (a0 a1 : AV) (S : St) : OA :=
  pe (boxA a0 S) fun r1 S1 =>
  pk (pfield r1 1 1) S1 fun r2 =>
  pk (ld1 S1 r2) S1 fun r3 =>
  pq (call0 run 71 [r3, a1] S1) fun r4 =>
  pk (abin Try.prog .lss 3 r4 (AV.int .i64 0)) S1 fun r5 =>
  ifA r5
  (some (AV.int .i64 (-1), S1))
  (pk (pfield r1 2 1) S1 fun r6 =>
  pk (ld1 S1 r6) S1 fun r7 =>
  pq (call0 run 105 [r7, r4] S1) fun r8 =>
  pk (abin Try.prog .lss 3 r8 (AV.int .i64 0)) S1 fun r9 =>
  ifA r9
  (some (AV.int .i64 (-1), S1))
  (pk (pfield r1 3 1) S1 fun r10 =>
  pk (ld1 S1 r10) S1 fun r11 =>
  pq (call0 run 51 [r11, r8] S1) fun r12 =>
  pk (abin Try.prog .lss 3 r12 (AV.int .i64 0)) S1 fun r13 =>
  ifA r13
  (some (AV.int .i64 (-1), S1))
  (pk (pfield r1 4 1) S1 fun r14 =>
  pk (ld1 S1 r14) S1 fun r15 =>
  pq (call0 run 106 [r15, r12] S1) fun r16 =>
  pk (abin Try.prog .lss 3 r16 (AV.int .i64 0)) S1 fun r17 =>
  ifA r17
  (some (AV.int .i64 (-1), S1))
  (some (r16, S1)))))
theorem t62 (N d : Nat) (a0 a1 : AV) (S : St) : R N (d + 1) 62 [a0, a1] S = b62 (cfg N) (R N d) a0 a1 S := by unfold R; kernel_rfl
def b26 (C : Cfg) (run : RunT) (a0 a1 : AV) (S : St) : OA :=
  pe (boxA a0 S) fun r1 S1 =>
  pk (pfield r1 1 5) S1 fun r2 =>
  pk (ldA S1 r2 5) S1 fun r3 =>
  pq (call0 run 62 [r3, a1] S1) fun r4 =>
  pk (abin Try.prog .lss 3 r4 (AV.int .i64 0)) S1 fun r5 =>
  ifA r5
  (some (AV.int .i64 (-1), S1))
  (some (r4, S1))
theorem t26 (N d : Nat) (a0 a1 : AV) (S : St) : R N (d + 1) 26 [a0, a1] S = b26 (cfg N) (R N d) a0 a1 S := by unfold R; kernel_rfl
def b4 (C : Cfg) (run : RunT) (a0 a1 : AV) (S : St) : OA :=
  pk (alen a1) S fun r1 =>
  pk (abin Try.prog .gtr 3 r1 (AV.int .i64 1048576)) S fun r2 =>
  ifA r2
  (some (AV.bool true, S))
  (pe (call1 run 20 [a1] S) fun r3 S3 =>
  pq (call0 run 19 [a0, r3] S3) fun r4 =>
  pe (some (newBox S3 [AV.int .i64 0, AV.int .i64 0, AV.rsl false true [], AV.rsl false true [], AV.rsl false true [], AV.rsl false true []])) fun r5 S5 =>
  pe (storeA 6 r5 r4 S5) fun r6 S6 =>
  pe (call1 run 20 [a1] S6) fun r7 S7 =>
  pe (call1 run 21 [a0, r7] S7) fun r8 S8 =>
  pe (some (newBox S8 [AV.int .i64 0, AV.int .i64 0, AV.rsl false true [], AV.rsl false true [], AV.rsl false true [], AV.rsl false true []])) fun r9 S9 =>
  pe (storeA 6 r9 r8 S9) fun r10 S10 =>
  pk (ldA S10 r9 6) S10 fun r11 =>
  pk (ldA S10 r5 6) S10 fun r12 =>
  pq (call0 run 22 [r11, r12] S10) fun r13 =>
  pk (aun .not r13) S10 fun r14 =>
  ifA r14
  (some (AV.bool false, S10))
  (pe (call1 run 20 [a1] S10) fun r15 S15 =>
  pq (call0 run 23 [r7, r15] S15) fun r16 =>
  pk (aun .not r16) S15 fun r17 =>
  ifA r17
  (some (AV.bool false, S15))
  (pe (callS run 24 [r7, AV.int .i64 1] S15) fun r18 S18 =>
  (pk (abin Try.prog .lss 3 r18 (AV.int .i64 0)) S18 fun r19 =>
  guardA r19 false
  (pk (ldA S18 r9 6) S18 fun r20 =>
  pk (ldA S18 r5 6) S18 fun r21 =>
  pq (call0 run 22 [r20, r21] S18) fun r22 =>
  pk (aun .not r22) S18 fun r23 =>
  ifA r23
  (some (AOut.ret [AV.bool false] S18))
  (some (AOut.norm [AV.bool false] S18)))
  (some (AOut.ret [AV.bool false] S18))).bind fun
  | AOut.norm l24 S24 => (pk (ldA S24 r9 6) S24 fun r25 =>
  pe (callS run 25 [r25, AV.int .i64 1] S24) fun r26 S26 =>
  pk (ldA S26 r9 6) S26 fun r27 =>
  pq (call0 run 26 [r27, AV.int .i64 1] S26) fun r28 =>
  pk (abin Try.prog .lss 3 r28 (AV.int .i64 0)) S26 fun r29 =>
  ifA r29
  (some (AV.bool false, S26))
  (pk (bin2 Try.prog .neq 3 r28 r26) S26 fun r30 =>
  ifA r30
  (some (AV.bool false, S26))
  (pe (call1 run 20 [a1] S26) fun r31 S31 =>
  pe (call1 run 21 [a0, r31] S31) fun r32 S32 =>
  pe (some (newBox S32 [AV.int .i64 0, AV.int .i64 0, AV.rsl false true [], AV.rsl false true [], AV.rsl false true [], AV.rsl false true []])) fun r33 S33 =>
  pe (storeA 6 r33 r32 S33) fun r34 S34 =>
  pk (ldA S34 r33 6) S34 fun r35 =>
  pk (ldA S34 r5 6) S34 fun r36 =>
  pq (call0 run 22 [r35, r36] S34) fun r37 =>
  pk (aun .not r37) S34 fun r38 =>
  ifA r38
  (some (AV.bool false, S34))
  (pk (ldA S34 r9 6) S34 fun r39 =>
  pq (call0 run 26 [r39, AV.int .i64 1] S34) fun r40 =>
  pk (abin Try.prog .lss 3 r40 (AV.int .i64 0)) S34 fun r41 =>
  ifA r41
  (some (AV.bool false, S34))
  (pk (bin2 Try.prog .neq 3 r40 r26) S34 fun r42 =>
  ifA r42
  (some (AV.bool false, S34))
  (some (AV.bool true, S34)))))))
  | AOut.exit x24 l24 S24 => (none)
  | AOut.ret l24 S24 => (some ((gd l24 0), S24)))))
theorem t4 (N d : Nat) (a0 a1 : AV) (S : St) : R N (d + 1) 4 [a0, a1] S = b4 (cfg N) (R N d) a0 a1 S := by unfold R; kernel_rfl
end
end Go.Proofs.Ytodfmofjncmdfaa
