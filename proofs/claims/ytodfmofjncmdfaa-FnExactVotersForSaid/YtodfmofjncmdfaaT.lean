/- What the evaluator makes of the functions; what they compute. -/
import Derived.Test.YtodfmofjncmdfaaProg
import Derived.KernelRfl
import Derived.Test.YtodfmofjncmdfaaRg2
namespace Go.Proofs.Ytodfmofjncmdfaa
open Go Go.Rf
set_option linter.unusedVariables false
noncomputable section
def cutT : List (Nat × List Nat) := [(2710005006, [1, 4, 5]), (10700001001, [2]), (6400008009, [4]), (6410006007, [4, 5]), (6500005011, [7]), (6500009009, [9]), (6510003004, [7, 8]), (6510007008, [9, 10]), (3010003004, [4]), (12710002006, [4, 8]), (11000001001, [2]), (13900001001, [4]), (13300004004, [30]), (13310001002, [6]), (13310004005, [7]), (14500003004, [9]), (14510001007, [8]), (13410004005, [9]), (13410008009, [10]), (14200001003, [0, 2]), (14200004006, [0, 2]), (14300001003, [0, 2]), (14300004006, [0, 2]), (14300007009, [0, 2]), (13500007010, []), (13500008009, [10]), (13510005006, [9]), (13600006011, [11]), (13600007010, [10, 11, 12]), (13710002005, [6, 7]), (13800005005, [32]), (13800005021, [6, 7]), (13800012015, []), (13810003004, [6, 7, 8]), (13810005006, [7]), (13810014015, [9]), (13810020021, [10]), (14000003003, [43]), (14000005005, [59]), (14010003004, [9]), (14010003010, [9, 10]), (14010005006, [10]), (14100003003, [43]), (14100005005, [60]), (14100013013, [112]), (14100015015, [129]), (14110003004, [10]), (14110005006, [11]), (14110013014, [10]), (14110013020, [10, 11]), (14110015016, [11]), (12800007009, [3]), (12800011014, [11, 12]), (12800015015, [68]), (12800015016, []), (12800017019, [1]), (12810002030, [1, 2, 3, 8, 9]), (11200011013, [3]), (11210004005, [2, 3]), (11210009010, [3, 5]), (6800004006, [5]), (6810003007, [5, 11]), (2310004005, [4, 5]), (3410004005, [4, 5]), (7010004006, [0, 3]), (3510002003, [1, 5]), (2410002003, [1, 5]), (7110002003, [1, 4, 5]), (500017018, [6])]
def mdT : List (Nat × Nat) := [(50030, 1), (50032, 1), (50035, 2), (50036, 2), (320068, 1), (360024, 2), (680111, 2), (680112, 2), (1110128, 2), (1280128, 2), (1280133, 2), (1280134, 2), (1280135, 2), (1280137, 2), (1280138, 2), (1280140, 2), (1280141, 2), (1340145, 2), (1350147, 2), (1360148, 2), (1360149, 2), (1480149, 2), (1490151, 2)]
@[irreducible] def NN : Nat := maxLen + 1
def siteT : List (Nat × Nat) := [(50027, 1), (50071, 1), (50074, 1)]
def cfg (N : Nat) : Cfg := { P := Try.prog, N := N, md := fun f g => lookM mdT (f * 10000 + g), cut := fun f k => lookT cutT (f * 100000000 + k), ext := fun f => none, site := fun f d => match d with | some t => bif Nat.beq (lookM siteT (f * 10000 + t)) 0 then f else f + 1000000 | none => f }
@[irreducible] noncomputable def R (N d : Nat) : FuncId → List AV → St → Option (AV × St) := arun (cfg N) d
def b28 (C : Cfg) (run : RunT) (a0 a1 : AV) (S : St) : OA :=
  pe (boxA a0 S) fun r1 S1 =>
  pk (pfield r1 2 1) S1 fun r2 =>
  pk (ld1 S1 r2) S1 fun r3 =>
  pk (slen r3) S1 fun r4 =>
  pk (bin2 Try.prog .sub 3 a1 r4) S1 fun r5 =>
  pk (abin Try.prog .lss 3 r5 (AV.int .i64 0)) S1 fun r6 =>
  ifA r6
  (some (AV.int .i64 (-1), S1))
  (some (r5, S1))
theorem t28 (N d : Nat) (a0 a1 : AV) (S : St) : R N (d + 1) 28 [a0, a1] S = b28 (cfg N) (R N d) a0 a1 S := by unfold R; kernel_rfl
def b63 (C : Cfg) (run : RunT) (a0 a1 : AV) (S : St) : OA :=
  pe (boxA a0 S) fun r1 S1 =>
  pk (pfield r1 1 3) S1 fun r2 =>
  pk (ldA S1 r2 3) S1 fun r3 =>
  pq (call0 run 28 [r3, a1] S1) fun r4 =>
  pk (abin Try.prog .lss 3 r4 (AV.int .i64 0)) S1 fun r5 =>
  ifA r5
  (some (AV.int .i64 (-1), S1))
  (some (r4, S1))
theorem t63 (N d : Nat) (a0 a1 : AV) (S : St) : R N (d + 1) 63 [a0, a1] S = b63 (cfg N) (R N d) a0 a1 S := by unfold R; kernel_rfl
def s27_0 (C : Cfg) (run : RunT) (a0 : AV) (l : List AV) (S : St) : Option AOut :=
  pk (alen a0) S fun r4 =>
  pk (bin2 Try.prog .lss 3 ((gd l 2)) r4) S fun r5 =>
  ifA r5
  (pk (pindex 4 a0 ((gd l 2)) S) S fun r6 =>
  pk (ldA S r6 4) S fun r7 =>
  pq (call0 run 63 [r7, (gd l 0)] S) fun r8 =>
  pk (abin Try.prog .lss 3 r8 (AV.int .i64 0)) S fun r9 =>
  ifA r9
  (some (AOut.ret [r8, AV.int .i64 (-1), (gd l 2)] S))
  (pk (abin Try.prog .add 3 ((gd l 2)) (AV.int .i64 1)) S fun r10 =>
  some (AOut.norm [r8, (gd l 1), r10] S)))
  (some (AOut.exit 0 [(gd l 0), (gd l 1), (gd l 2)] S))
def b27 (C : Cfg) (run : RunT) (a0 a1 : AV) (S : St) : OA :=
  pk (alen a0) S fun r1 =>
  pk (bin2 Try.prog .sub 3 a1 r1) S fun r2 =>
  pk (abin Try.prog .lss 3 r2 (AV.int .i64 0)) S fun r3 =>
  ifA r3
  (some (AV.int .i64 (-1), S))
  ((aloop (s27_0 C run a0) C.N [r2, AV.int .i64 0, AV.int .i64 0] S).bind fun
  | AOut.norm _ _ => (none)
  | AOut.exit x11 l11 S11 => (if x11 = 0 then (some ((gd l11 0), S11)) else (none))
  | AOut.ret l11 S11 => (some ((gd l11 1), S11)))
theorem t27 (N d : Nat) (a0 a1 : AV) (S : St) : R N (d + 1) 27 [a0, a1] S = b27 (cfg N) (R N d) a0 a1 S := by unfold R; kernel_rfl
def b74 (C : Cfg) (run : RunT) (a0 a1 a2 : AV) (S : St) : OA :=
  pk (bin2 Try.prog .geq 2 a0 a1) S fun r1 =>
  guardA r1 true
  (pk (bin2 Try.prog .leq 2 a0 a2) S fun r2 =>
  some (r2, S))
  (some (AV.bool false, S))
theorem t74 (N d : Nat) (a0 a1 a2 : AV) (S : St) : R N (d + 1) 74 [a0, a1, a2] S = b74 (cfg N) (R N d) a0 a1 a2 S := by unfold R; kernel_rfl
def b52 (C : Cfg) (run : RunT) (a0 : AV) (S : St) : OA :=
  pq (call0 run 74 [a0, AV.int .i64 1, AV.int .i64 2] S) fun r1 =>
  some (r1, S)
theorem t52 (N d : Nat) (a0 : AV) (S : St) : R N (d + 1) 52 [a0] S = b52 (cfg N) (R N d) a0 S := by unfold R; kernel_rfl
def b75 (C : Cfg) (run : RunT) (a0 a1 : AV) (S : St) : OA :=
  pk (abin Try.prog .mul 2 (AV.int .i64 3) a0) S fun r1 =>
  pk (abin Try.prog .add 2 r1 (AV.int .i64 1)) S fun r2 =>
  pq (call0 run 74 [a1, AV.int .i64 1, r2] S) fun r3 =>
  some (r3, S)
theorem t75 (N d : Nat) (a0 a1 : AV) (S : St) : R N (d + 1) 75 [a0, a1] S = b75 (cfg N) (R N d) a0 a1 S := by unfold R; kernel_rfl
def b107 (C : Cfg) (run : RunT) (a0 : AV) (S : St) : OA :=
  (pq (nilA a0 S) fun r1 =>
  pk (pfield r1 0 1) S fun r2 =>
  pk (ld1 S r2) S fun r3 =>
  pq (call0 run 74 [r3, AV.int .i64 0, AV.int .i64 10] S) fun r4 =>
  guardA r4 true
  (pq (nilA a0 S) fun r5 =>
  pk (pfield r5 1 1) S fun r6 =>
  pk (ld1 S r6) S fun r7 =>
  pq (call0 run 74 [r7, AV.int .i64 (-1), AV.int .i64 9999] S) fun r8 =>
  guardA r8 true
  (pq (nilA a0 S) fun r9 =>
  pk (pfield r9 2 1) S fun r10 =>
  pk (ld1 S r10) S fun r11 =>
  pk (slen r11) S fun r12 =>
  pk (abin Try.prog .leq 3 r12 (AV.int .i64 24)) S fun r13 =>
  some (AOut.norm [r13] S))
  (some (AOut.norm [AV.bool false] S)))
  (some (AOut.norm [AV.bool false] S))).bind fun
  | AOut.norm l14 S14 => (some ((gd l14 0), S14))
  | AOut.exit x14 l14 S14 => (none)
  | AOut.ret l14 S14 => (some ((gd l14 0), S14))
theorem t107 (N d : Nat) (a0 : AV) (S : St) : R N (d + 1) 107 [a0] S = b107 (cfg N) (R N d) a0 S := by unfold R; kernel_rfl
def s64_0 (C : Cfg) (run : RunT) (a0 : AV) (a1 : AV) (l : List AV) (S : St) : Option AOut :=
  pk (alen a1) S fun r5 =>
  pk (bin2 Try.prog .lss 3 ((gd l 1)) r5) S fun r6 =>
  ifA r6
  ((pk (pindex 4 a1 ((gd l 1)) S) S fun r7 =>
  pk (pfield r7 0 1) S fun r8 =>
  pk (ld1 S r8) S fun r9 =>
  pq (call0 run 75 [a0, r9] S) fun r10 =>
  pk (aun .not r10) S fun r11 =>
  guardA r11 false
  (pk (pindex 4 a1 ((gd l 1)) S) S fun r12 =>
  pk (pfield r12 1 3) S fun r13 =>
  pq (call0 run 107 [r13] S) fun r14 =>
  pk (aun .not r14) S fun r15 =>
  ifA r15
  (some (AOut.ret [AV.int .i64 3] S))
  (some (AOut.norm [(gd l 0)] S)))
  (some (AOut.ret [AV.int .i64 3] S))).bind fun
  | AOut.norm l16 S16 => (pk (abin Try.prog .add 3 ((gd l 1)) (AV.int .i64 1)) S16 fun r17 =>
  some (AOut.norm [(gd l16 0), r17] S16))
  | AOut.exit x16 l16 S16 => (some (AOut.exit x16 [(gd l16 0), (gd l 1)] S16))
  | AOut.ret l16 S16 => (some (AOut.ret [(gd l16 0), (gd l 1)] S16)))
  (some (AOut.exit 0 [(gd l 0), (gd l 1)] S))
def b64 (C : Cfg) (run : RunT) (a0 a1 : AV) (S : St) : OA :=
  pq (call0 run 52 [a0] S) fun r1 =>
  pk (aun .not r1) S fun r2 =>
  ifA r2
  (some (AV.int .i64 3, S))
  (pk (alen a1) S fun r3 =>
  pk (abin Try.prog .gtr 3 r3 (AV.int .i64 40)) S fun r4 =>
  ifA r4
  (some (AV.int .i64 2, S))
  ((aloop (s64_0 C run a0 a1) C.N [AV.int .i64 0, AV.int .i64 0] S).bind fun
  | AOut.norm _ _ => (none)
  | AOut.exit x18 l18 S18 => (if x18 = 0 then (some (AV.int .i64 0, S18)) else (none))
  | AOut.ret l18 S18 => (some ((gd l18 0), S18))))
theorem t64 (N d : Nat) (a0 a1 : AV) (S : St) : R N (d + 1) 64 [a0, a1] S = b64 (cfg N) (R N d) a0 a1 S := by unfold R; kernel_rfl
def s65_0 (C : Cfg) (run : RunT) (a1 : AV) (l : List AV) (r1 : AV) (l6 : List AV) (S : St) : Option AOut :=
  pk (alen a1) S fun r7 =>
  pk (bin2 Try.prog .lss 3 ((gd l6 1)) r7) S fun r8 =>
  ifA r8
  ((guardA ((gd l6 0)) false
  (pk (pindex 4 a1 ((gd l6 1)) S) S fun r9 =>
  pk (pfield r9 0 1) S fun r10 =>
  pk (ld1 S r10) S fun r11 =>
  pk (bin2 Try.prog .eql 2 r11 ((gd l 1))) S fun r12 =>
  guardA r12 true
  (pk (pindex 4 a1 ((gd l6 1)) S) S fun r13 =>
  pk (pfield r13 1 3) S fun r14 =>
  pk (ldA S r14 3) S fun r15 =>
  pk (ldA S r1 3) S fun r16 =>
  pk (bin2 Try.prog .eql 68 r15 r16) S fun r17 =>
  some (AOut.norm [r17] S))
  (some (AOut.norm [AV.bool false] S)))
  (some (AOut.norm [AV.bool true] S))).bind fun
  | AOut.norm l18 S18 => (pk (abin Try.prog .add 3 ((gd l6 1)) (AV.int .i64 1)) S18 fun r19 =>
  some (AOut.norm [(gd l18 0), r19] S18))
  | AOut.exit x18 l18 S18 => (some (AOut.exit x18 [(gd l18 0), (gd l6 1)] S18))
  | AOut.ret l18 S18 => (some (AOut.ret [(gd l18 0), (gd l6 1)] S18)))
  (some (AOut.exit 2 [(gd l6 0), (gd l6 1)] S))
def s65_1 (C : Cfg) (run : RunT) (a0 : AV) (a1 : AV) (r1 : AV) (l : List AV) (S : St) : Option AOut :=
  pk (abin Try.prog .mul 2 (AV.int .i64 3) a0) S fun r3 =>
  pk (abin Try.prog .add 2 r3 (AV.int .i64 1)) S fun r4 =>
  pk (bin2 Try.prog .leq 2 ((gd l 1)) r4) S fun r5 =>
  ifA r5
  (((aloop (s65_0 C run a1 l r1) C.N [AV.bool false, AV.int .i64 0] S).bind fun
  | AOut.norm _ _ => (none)
  | AOut.exit x20 l20 S20 => (if x20 = 2 then (ifA ((gd l20 0))
  (pe (abuildS Try.prog 24 1 [(0, (gd l 1))] S20) fun r21 S21 =>
  pe (appA 1 8 ((gd l 0)) r21 S21) fun r22 S22 =>
  some (AOut.norm [r22] S22))
  (some (AOut.norm [(gd l 0)] S20))) else (if x20 = 1 then (some (AOut.norm [(gd l 0)] S20)) else (some (AOut.exit x20 [(gd l 0)] S20))))
  | AOut.ret l20 S20 => (some (AOut.ret [(gd l 0)] S20))).bind fun
  | AOut.norm l23 S23 => (pk (abin Try.prog .add 2 ((gd l 1)) (AV.int .i64 1)) S23 fun r24 =>
  some (AOut.norm [(gd l23 0), r24] S23))
  | AOut.exit x23 l23 S23 => (some (AOut.exit x23 [(gd l23 0), (gd l 1)] S23))
  | AOut.ret l23 S23 => (some (AOut.ret [(gd l23 0), (gd l 1)] S23)))
  (some (AOut.exit 0 [(gd l 0), (gd l 1)] S))
def b65 (C : Cfg) (run : RunT) (a0 a1 a2 : AV) (S : St) : OA :=
  pe (boxA a2 S) fun r1 S1 =>
  pe (abuildS Try.prog 24 0 [] S1) fun r2 S2 =>
  (aloop (s65_1 C run a0 a1 r1) C.N [r2, AV.int .i64 1] S2).bind fun
  | AOut.norm _ _ => (none)
  | AOut.exit x25 l25 S25 => (if x25 = 0 then (some ((gd l25 0), S25)) else (none))
  | AOut.ret l25 S25 => (some (AV.rsl false true [], S25))
theorem t65 (N d : Nat) (a0 a1 a2 : AV) (S : St) : R N (d + 1) 65 [a0, a1, a2] S = b65 (cfg N) (R N d) a0 a1 a2 S := by unfold R; kernel_rfl
def b29 (C : Cfg) (run : RunT) (a0 a1 a2 : AV) (S : St) : OA :=
  pe (boxA a2 S) fun r1 S1 =>
  pe (some (newBox S1 [AV.int .i64 0, AV.rsl false true []])) fun r2 S2 =>
  pq (call0 run 64 [a0, a1] S2) fun r3 =>
  pk (abin Try.prog .neq 2 r3 (AV.int .i64 0)) S2 fun r4 =>
  ifA r4
  (pk (abuild Try.prog 64 [(0, r3)]) S2 fun r5 =>
  pe (storeA 2 r2 r5 S2) fun r6 S6 =>
  (ldA S6 r2 2).map (·, S6))
  (pk (ldA S2 r1 3) S2 fun r7 =>
  pq (call0 run 65 [a0, a1, r7] S2) fun r8 =>
  pk (abuild Try.prog 64 [(1, r8)]) S2 fun r9 =>
  pe (storeA 2 r2 r9 S2) fun r10 S10 =>
  (ldA S10 r2 2).map (·, S10))
theorem t29 (N d : Nat) (a0 a1 a2 : AV) (S : St) : R N (d + 1) 29 [a0, a1, a2] S = b29 (cfg N) (R N d) a0 a1 a2 S := by unfold R; kernel_rfl
def b31 (C : Cfg) (run : RunT) (a0 : AV) (S : St) : OA :=
  pe (boxA a0 S) fun r1 S1 =>
  pe (some (newBox S1 [AV.int .i64 0, AV.int .i64 0, AV.str ⟨#[]⟩])) fun r2 S2 =>
  pe (some (newBox S2 [AV.int .i64 0, AV.int .i64 0, AV.str ⟨#[]⟩])) fun r3 S3 =>
  pk (pfield r1 0 1) S3 fun r4 =>
  pk (ld1 S3 r4) S3 fun r5 =>
  pk (pfield r3 0 1) S3 fun r6 =>
  pe (storeA 1 r6 r5 S3) fun r7 S7 =>
  pk (pfield r1 1 1) S7 fun r8 =>
  pk (ld1 S7 r8) S7 fun r9 =>
  pk (pfield r3 1 1) S7 fun r10 =>
  pe (storeA 1 r10 r9 S7) fun r11 S11 =>
  pk (pfield r1 2 1) S11 fun r12 =>
  pk (ld1 S11 r12) S11 fun r13 =>
  pk (pfield r3 2 1) S11 fun r14 =>
  pe (storeA 1 r14 r13 S11) fun r15 S15 =>
  pk (ldA S15 r3 3) S15 fun r16 =>
  pe (storeA 3 r2 r16 S15) fun r17 S17 =>
  (ldA S17 r2 3).map (·, S17)
theorem t31 (N d : Nat) (a0 : AV) (S : St) : R N (d + 1) 31 [a0] S = b31 (cfg N) (R N d) a0 S := by unfold R; kernel_rfl
def b66 (C : Cfg) (run : RunT) (a0 : AV) (S : St) : OA :=
  pe (boxA a0 S) fun r1 S1 =>
  pe (some (newBox S1 [AV.int .i64 0, AV.int .i64 0, AV.int .i64 0, AV.str ⟨#[]⟩])) fun r2 S2 =>
  pe (some (newBox S2 [AV.int .i64 0, AV.int .i64 0, AV.int .i64 0, AV.str ⟨#[]⟩])) fun r3 S3 =>
  pk (pfield r1 0 1) S3 fun r4 =>
  pk (ld1 S3 r4) S3 fun r5 =>
  pk (pfield r3 0 1) S3 fun r6 =>
  pe (storeA 1 r6 r5 S3) fun r7 S7 =>
  pk (pfield r1 1 3) S7 fun r8 =>
  pk (ldA S7 r8 3) S7 fun r9 =>
  pq (call0 run 31 [r9] S7) fun r10 =>
  pk (pfield r3 1 3) S7 fun r11 =>
  pe (storeA 3 r11 r10 S7) fun r12 S12 =>
  pk (ldA S12 r3 4) S12 fun r13 =>
  pe (storeA 4 r2 r13 S12) fun r14 S14 =>
  (ldA S14 r2 4).map (·, S14)
theorem t66 (N d : Nat) (a0 : AV) (S : St) : R N (d + 1) 66 [a0] S = b66 (cfg N) (R N d) a0 S := by unfold R; kernel_rfl
def s30_0 (C : Cfg) (run : RunT) (a0 : AV) (r2 : AV) (l : List AV) (S : St) : Option AOut :=
  pk (alen a0) S fun r3 =>
  pk (bin2 Try.prog .lss 3 ((gd l 0)) r3) S fun r4 =>
  ifA r4
  (pk (pindex 4 a0 ((gd l 0)) S) S fun r5 =>
  pk (ldA S r5 4) S fun r6 =>
  pq (call0 run 66 [r6] S) fun r7 =>
  pk (pindex 4 r2 ((gd l 0)) S) S fun r8 =>
  pe (storeA 4 r8 r7 S) fun r9 S9 =>
  pk (abin Try.prog .add 3 ((gd l 0)) (AV.int .i64 1)) S9 fun r10 =>
  some (AOut.norm [r10] S9))
  (some (AOut.exit 0 [(gd l 0)] S))
def b30 (C : Cfg) (run : RunT) (a0 : AV) (S : St) : OA :=
  pk (alen a0) S fun r1 =>
  pe (amake Try.prog 66 r1 r1 S) fun r2 S2 =>
  (aloop (s30_0 C run a0 r2) C.N [AV.int .i64 0] S2).bind fun
  | AOut.norm _ _ => (none)
  | AOut.exit x11 l11 S11 => (if x11 = 0 then (some (r2, S11)) else (none))
  | AOut.ret l11 S11 => (some (AV.rsl false true [], S11))
theorem t30 (N d : Nat) (a0 : AV) (S : St) : R N (d + 1) 30 [a0] S = b30 (cfg N) (R N d) a0 S := by unfold R; kernel_rfl
def b84 (C : Cfg) (run : RunT) (a0 a1 a2 : AV) (S : St) : OA :=
  pk (bin2 Try.prog .leq 2 a1 a0) S fun r1 =>
  guardA r1 true
  (pk (bin2 Try.prog .leq 2 a0 a2) S fun r2 =>
  some (r2, S))
  (some (AV.bool false, S))
theorem t84 (N d : Nat) (a0 a1 a2 : AV) (S : St) : R N (d + 1) 84 [a0, a1, a2] S = b84 (cfg N) (R N d) a0 a1 a2 S := by unfold R; kernel_rfl
def b56 (C : Cfg) (run : RunT) (a0 : AV) (S : St) : OA :=
  pq (call0 run 84 [a0, AV.int .i64 1, AV.int .i64 2] S) fun r1 =>
  some (r1, S)
theorem t56 (N d : Nat) (a0 : AV) (S : St) : R N (d + 1) 56 [a0] S = b56 (cfg N) (R N d) a0 S := by unfold R; kernel_rfl
def s127_0 (C : Cfg) (run : RunT) (a0 : AV) (a1 : AV) (r1 : AV) (l : List AV) (S : St) : Option AOut :=
  pk (bin2 Try.prog .lss 3 ((gd l 1)) r1) S fun r2 =>
  ifA r2
  (pk (pindex 4 a0 ((gd l 1)) S) S fun r3 =>
  pk (ldA S r3 4) S fun r4 =>
  pe (callV C run 127 a1 [r4] S) fun r5 S5 =>
  ifA r5
  (some (AOut.ret [(gd l 1), (gd l 1)] S5))
  (pk (abin Try.prog .add 3 ((gd l 1)) (AV.int .i64 1)) S5 fun r6 =>
  some (AOut.norm [(gd l 0), r6] S5)))
  (some (AOut.exit 0 [(gd l 0), (gd l 1)] S))
def b127 (C : Cfg) (run : RunT) (a0 a1 : AV) (S : St) : OA :=
  pk (alen a0) S fun r1 =>
  (aloop (s127_0 C run a0 a1 r1) C.N [AV.int .i64 0, AV.int .i64 0] S).bind fun
  | AOut.norm _ _ => (none)
  | AOut.exit x7 l7 S7 => (if x7 = 0 then (some (AV.int .i64 (-1), S7)) else (none))
  | AOut.ret l7 S7 => (some ((gd l7 0), S7))
theorem t127 (N d : Nat) (a0 a1 : AV) (S : St) : R N (d + 1) 127 [a0, a1] S = b127 (cfg N) (R N d) a0 a1 S := by unfold R; kernel_rfl
def b108 (C : Cfg) (run : RunT) (a0 a1 : AV) (S : St) : OA :=
  pq (call0 run 127 [a0, a1] S) fun r1 =>
  pk (abin Try.prog .geq 3 r1 (AV.int .i64 0)) S fun r2 =>
  some (r2, S)
theorem t108 (N d : Nat) (a0 a1 : AV) (S : St) : R N (d + 1) 108 [a0, a1] S = b108 (cfg N) (R N d) a0 a1 S := by unfold R; kernel_rfl
def b89 (C : Cfg) (run : RunT) (a0 : AV) (S : St) : OA :=
  pk (abin Try.prog .mul 2 (AV.int .i64 3) a0) S fun r1 =>
  pk (abin Try.prog .add 2 r1 (AV.int .i64 1)) S fun r2 =>
  some (r2, S)
theorem t89 (N d : Nat) (a0 : AV) (S : St) : R N (d + 1) 89 [a0] S = b89 (cfg N) (R N d) a0 S := by unfold R; kernel_rfl
def b86 (C : Cfg) (run : RunT) (a0 a1 : AV) (S : St) : OA :=
  pq (call0 run 89 [a0] S) fun r1 =>
  pq (call0 run 84 [a1, AV.int .i64 1, r1] S) fun r2 =>
  some (r2, S)
theorem t86 (N d : Nat) (a0 a1 : AV) (S : St) : R N (d + 1) 86 [a0, a1] S = b86 (cfg N) (R N d) a0 a1 S := by unfold R; kernel_rfl
def b110 (C : Cfg) (run : RunT) (a0 : AV) (S : St) : OA :=
  pe (boxA a0 S) fun r1 S1 =>
  (pk (pfield r1 0 1) S1 fun r2 =>
  pk (ld1 S1 r2) S1 fun r3 =>
  pq (call0 run 84 [r3, AV.int .i64 0, AV.int .i64 10] S1) fun r4 =>
  guardA r4 true
  (pk (pfield r1 1 1) S1 fun r5 =>
  pk (ld1 S1 r5) S1 fun r6 =>
  pq (call0 run 84 [r6, AV.int .i64 (-1), AV.int .i64 9999] S1) fun r7 =>
  guardA r7 true
  (pk (pfield r1 2 1) S1 fun r8 =>
  pk (ld1 S1 r8) S1 fun r9 =>
  pk (slen r9) S1 fun r10 =>
  pk (abin Try.prog .leq 3 r10 (AV.int .i64 24)) S1 fun r11 =>
  some (AOut.norm [r11] S1))
  (some (AOut.norm [AV.bool false] S1)))
  (some (AOut.norm [AV.bool false] S1))).bind fun
  | AOut.norm l12 S12 => (some ((gd l12 0), S12))
  | AOut.exit x12 l12 S12 => (none)
  | AOut.ret l12 S12 => (some ((gd l12 0), S12))
theorem t110 (N d : Nat) (a0 : AV) (S : St) : R N (d + 1) 110 [a0] S = b110 (cfg N) (R N d) a0 S := by unfold R; kernel_rfl
def b109 (C : Cfg) (run : RunT) (a0 a1 : AV) (S : St) : OA :=
  pe (boxA a0 S) fun r1 S1 =>
  pk (ld1 S1 a1) S1 fun r2 =>
  pk (pfield r1 0 1) S1 fun r3 =>
  pk (ld1 S1 r3) S1 fun r4 =>
  pq (call0 run 86 [r2, r4] S1) fun r5 =>
  pk (aun .not r5) S1 fun r6 =>
  guardA r6 false
  (pk (pfield r1 1 3) S1 fun r7 =>
  pk (ldA S1 r7 3) S1 fun r8 =>
  pq (call0 run 110 [r8] S1) fun r9 =>
  pk (aun .not r9) S1 fun r10 =>
  some (r10, S1))
  (some (AV.bool true, S1))
theorem t109 (N d : Nat) (a0 a1 : AV) (S : St) : R N (d + 1) 109 [a0, a1] S = b109 (cfg N) (R N d) a0 a1 S := by unfold R; kernel_rfl
def b67 (C : Cfg) (run : RunT) (a0 a1 : AV) (S : St) : OA :=
  pe (boxA a0 S) fun r1 S1 =>
  pk (ld1 S1 r1) S1 fun r2 =>
  pq (call0 run 56 [r2] S1) fun r3 =>
  pk (aun .not r3) S1 fun r4 =>
  ifA r4
  (some (AV.int .i64 3, S1))
  (pk (alen a1) S1 fun r5 =>
  pk (abin Try.prog .gtr 3 r5 (AV.int .i64 40)) S1 fun r6 =>
  ifA r6
  (some (AV.int .i64 2, S1))
  (pq (call0 run 108 [a1, AV.fn 109 [r1]] S1) fun r7 =>
  ifA r7
  (some (AV.int .i64 3, S1))
  (some (AV.int .i64 0, S1))))
theorem t67 (N d : Nat) (a0 a1 : AV) (S : St) : R N (d + 1) 67 [a0, a1] S = b67 (cfg N) (R N d) a0 a1 S := by unfold R; kernel_rfl
def b150 (C : Cfg) (run : RunT) (a0 : AV) (S : St) : OA :=
  pk (bin2 Try.prog .neq 2 a0 a0) S fun r1 =>
  some (r1, S)
theorem t150 (N d : Nat) (a0 : AV) (S : St) : R N (d + 1) 150 [a0] S = b150 (cfg N) (R N d) a0 S := by unfold R; kernel_rfl
def b139 (C : Cfg) (run : RunT) (a0 a1 : AV) (S : St) : OA :=
  (pq (call0 run 150 [a0] S) fun r1 =>
  guardA r1 true
  (pq (call0 run 150 [a1] S) fun r2 =>
  pk (aun .not r2) S fun r3 =>
  guardA r3 false
  (pk (bin2 Try.prog .lss 2 a0 a1) S fun r4 =>
  some (AOut.norm [r4] S))
  (some (AOut.norm [AV.bool true] S)))
  (pk (bin2 Try.prog .lss 2 a0 a1) S fun r5 =>
  some (AOut.norm [r5] S))).bind fun
  | AOut.norm l6 S6 => (some ((gd l6 0), S6))
  | AOut.exit x6 l6 S6 => (none)
  | AOut.ret l6 S6 => (some ((gd l6 0), S6))
theorem t139 (N d : Nat) (a0 a1 : AV) (S : St) : R N (d + 1) 139 [a0, a1] S = b139 (cfg N) (R N d) a0 a1 S := by unfold R; kernel_rfl
def s133_0 (C : Cfg) (run : RunT) (a0 : AV) (a1 : AV) (l3 : List AV) (S : St) : Option AOut :=
  ((pk (bin2 Try.prog .gtr 3 ((gd l3 0)) a1) S fun r4 =>
  guardA r4 true
  (pk (pindex 1 a0 ((gd l3 0)) S) S fun r5 =>
  pk (ld1 S r5) S fun r6 =>
  pk (abin Try.prog .sub 3 ((gd l3 0)) (AV.int .i64 1)) S fun r7 =>
  pk (pindex 1 a0 r7 S) S fun r8 =>
  pk (ld1 S r8) S fun r9 =>
  pq (call0 run 139 [r6, r9] S) fun r10 =>
  some (AOut.norm [r10] S))
  (some (AOut.norm [AV.bool false] S))).bind fun
  | AOut.norm l11 S11 => (ifA ((gd l11 0))
  (some (AOut.norm [(gd l11 0)] S11))
  (some (AOut.exit 2 [(gd l11 0)] S11)))
  | AOut.exit x11 l11 S11 => (some (AOut.exit x11 [(gd l11 0)] S11))
  | AOut.ret l11 S11 => (some (AOut.ret [(gd l11 0)] S11))).bind fun
  | AOut.norm l12 S12 => (pk (abin Try.prog .sub 3 ((gd l3 0)) (AV.int .i64 1)) S12 fun r13 =>
  pk (abin Try.prog .sub 3 ((gd l3 0)) (AV.int .i64 1)) S12 fun r14 =>
  pk (pindex 1 a0 r14 S12) S12 fun r15 =>
  pk (ld1 S12 r15) S12 fun r16 =>
  pk (pindex 1 a0 ((gd l3 0)) S12) S12 fun r17 =>
  pk (ld1 S12 r17) S12 fun r18 =>
  pk (pindex 1 a0 ((gd l3 0)) S12) S12 fun r19 =>
  pe (storeA 1 r19 r16 S12) fun r20 S20 =>
  pk (pindex 1 a0 r13 S20) S20 fun r21 =>
  pe (storeA 1 r21 r18 S20) fun r22 S22 =>
  pk (abin Try.prog .sub 3 ((gd l3 0)) (AV.int .i64 1)) S22 fun r23 =>
  some (AOut.norm [r23] S22))
  | AOut.exit x12 l12 S12 => (some (AOut.exit x12 [(gd l3 0)] S12))
  | AOut.ret l12 S12 => (some (AOut.ret [(gd l3 0)] S12))
def s133_1 (C : Cfg) (run : RunT) (a0 : AV) (a1 : AV) (a2 : AV) (l : List AV) (S : St) : Option AOut :=
  pk (bin2 Try.prog .lss 3 ((gd l 0)) a2) S fun r2 =>
  ifA r2
  ((aloop (s133_0 C run a0 a1) C.N [(gd l 0)] S).bind fun
  | AOut.norm _ _ => (none)
  | AOut.exit x24 l24 S24 => (if x24 = 2 then (pk (abin Try.prog .add 3 ((gd l 0)) (AV.int .i64 1)) S24 fun r25 =>
  some (AOut.norm [r25] S24)) else (if x24 = 1 then (pk (abin Try.prog .add 3 ((gd l 0)) (AV.int .i64 1)) S24 fun r26 =>
  some (AOut.norm [r26] S24)) else (some (AOut.exit x24 [(gd l 0)] S24))))
  | AOut.ret l24 S24 => (some (AOut.ret [(gd l 0)] S24)))
  (some (AOut.exit 0 [(gd l 0)] S))
def b133 (C : Cfg) (run : RunT) (a0 a1 a2 : AV) (S : St) : OA :=
  pk (abin Try.prog .add 3 a1 (AV.int .i64 1)) S fun r1 =>
  (aloop (s133_1 C run a0 a1 a2) C.N [r1] S).bind fun
  | AOut.norm _ _ => (none)
  | AOut.exit x27 l27 S27 => (if x27 = 0 then (some (und, S27)) else (none))
  | AOut.ret l27 S27 => (some (und, S27))
theorem t133 (N d : Nat) (a0 a1 a2 : AV) (S : St) : R N (d + 1) 133 [a0, a1, a2] S = b133 (cfg N) (R N d) a0 a1 a2 S := by unfold R; kernel_rfl
def s145_0 (C : Cfg) (run : RunT) (a0 : AV) (a2 : AV) (a3 : AV) (l : List AV) (S : St) : Option AOut :=
  pk (abin Try.prog .mul 3 (AV.int .i64 2) ((gd l 0))) S fun r1 =>
  pk (abin Try.prog .add 3 r1 (AV.int .i64 1)) S fun r2 =>
  pk (bin2 Try.prog .geq 3 r2 a2) S fun r3 =>
  ifA r3
  (some (AOut.exit 0 [(gd l 0)] S))
  ((pk (abin Try.prog .add 3 r2 (AV.int .i64 1)) S fun r4 =>
  pk (bin2 Try.prog .lss 3 r4 a2) S fun r5 =>
  guardA r5 true
  (pk (bin2 Try.prog .add 3 a3 r2) S fun r6 =>
  pk (pindex 1 a0 r6 S) S fun r7 =>
  pk (ld1 S r7) S fun r8 =>
  pk (bin2 Try.prog .add 3 a3 r2) S fun r9 =>
  pk (abin Try.prog .add 3 r9 (AV.int .i64 1)) S fun r10 =>
  pk (pindex 1 a0 r10 S) S fun r11 =>
  pk (ld1 S r11) S fun r12 =>
  pq (call0 run 139 [r8, r12] S) fun r13 =>
  ifA r13
  (pk (abin Try.prog .add 3 r2 (AV.int .i64 1)) S fun r14 =>
  some (AOut.norm [r14] S))
  (some (AOut.norm [r2] S)))
  (some (AOut.norm [r2] S))).bind fun
  | AOut.norm l15 S15 => (pk (bin2 Try.prog .add 3 a3 ((gd l 0))) S15 fun r16 =>
  pk (pindex 1 a0 r16 S15) S15 fun r17 =>
  pk (ld1 S15 r17) S15 fun r18 =>
  pk (bin2 Try.prog .add 3 a3 ((gd l15 0))) S15 fun r19 =>
  pk (pindex 1 a0 r19 S15) S15 fun r20 =>
  pk (ld1 S15 r20) S15 fun r21 =>
  pq (call0 run 139 [r18, r21] S15) fun r22 =>
  pk (aun .not r22) S15 fun r23 =>
  ifA r23
  (some (AOut.ret [(gd l 0)] S15))
  (pk (bin2 Try.prog .add 3 a3 ((gd l 0))) S15 fun r24 =>
  pk (bin2 Try.prog .add 3 a3 ((gd l15 0))) S15 fun r25 =>
  pk (bin2 Try.prog .add 3 a3 ((gd l15 0))) S15 fun r26 =>
  pk (pindex 1 a0 r26 S15) S15 fun r27 =>
  pk (ld1 S15 r27) S15 fun r28 =>
  pk (bin2 Try.prog .add 3 a3 ((gd l 0))) S15 fun r29 =>
  pk (pindex 1 a0 r29 S15) S15 fun r30 =>
  pk (ld1 S15 r30) S15 fun r31 =>
  pk (pindex 1 a0 r24 S15) S15 fun r32 =>
  pe (storeA 1 r32 r28 S15) fun r33 S33 =>
  pk (pindex 1 a0 r25 S33) S33 fun r34 =>
  pe (storeA 1 r34 r31 S33) fun r35 S35 =>
  some (AOut.norm [(gd l15 0)] S35)))
  | AOut.exit x15 l15 S15 => (if x15 = 1 then (some (AOut.norm [(gd l 0)] S15)) else (some (AOut.exit x15 [(gd l 0)] S15)))
  | AOut.ret l15 S15 => (some (AOut.ret [(gd l 0)] S15)))
def b145 (C : Cfg) (run : RunT) (a0 a1 a2 a3 : AV) (S : St) : OA :=
  (aloop (s145_0 C run a0 a2 a3) C.N [a1] S).bind fun
  | AOut.norm _ _ => (none)
  | AOut.exit x36 l36 S36 => (if x36 = 0 then (some (und, S36)) else (none))
  | AOut.ret l36 S36 => (some (und, S36))
theorem t145 (N d : Nat) (a0 a1 a2 a3 : AV) (S : St) : R N (d + 1) 145 [a0, a1, a2, a3] S = b145 (cfg N) (R N d) a0 a1 a2 a3 S := by unfold R; kernel_rfl
def s134_0 (C : Cfg) (run : RunT) (a0 : AV) (a1 : AV) (r1 : AV) (l : List AV) (S : St) : Option AOut :=
  pk (abin Try.prog .geq 3 ((gd l 0)) (AV.int .i64 0)) S fun r4 =>
  ifA r4
  (pe (callS run 145 [a0, (gd l 0), r1, a1] S) fun r5 S5 =>
  pk (abin Try.prog .sub 3 ((gd l 0)) (AV.int .i64 1)) S5 fun r6 =>
  some (AOut.norm [r6] S5))
  (some (AOut.exit 0 [(gd l 0)] S))
def s134_1 (C : Cfg) (run : RunT) (a0 : AV) (a1 : AV) (l : List AV) (S : St) : Option AOut :=
  pk (abin Try.prog .geq 3 ((gd l 0)) (AV.int .i64 0)) S fun r9 =>
  ifA r9
  (pk (bin2 Try.prog .add 3 a1 ((gd l 0))) S fun r10 =>
  pk (bin2 Try.prog .add 3 a1 ((gd l 0))) S fun r11 =>
  pk (pindex 1 a0 r11 S) S fun r12 =>
  pk (ld1 S r12) S fun r13 =>
  pk (pindex 1 a0 a1 S) S fun r14 =>
  pk (ld1 S r14) S fun r15 =>
  pk (pindex 1 a0 a1 S) S fun r16 =>
  pe (storeA 1 r16 r13 S) fun r17 S17 =>
  pk (pindex 1 a0 r10 S17) S17 fun r18 =>
  pe (storeA 1 r18 r15 S17) fun r19 S19 =>
  pe (callS run 145 [a0, AV.int .i64 0, (gd l 0), a1] S19) fun r20 S20 =>
  pk (abin Try.prog .sub 3 ((gd l 0)) (AV.int .i64 1)) S20 fun r21 =>
  some (AOut.norm [r21] S20))
  (some (AOut.exit 2 [(gd l 0)] S))
def b134 (C : Cfg) (run : RunT) (a0 a1 a2 : AV) (S : St) : OA :=
  pk (bin2 Try.prog .sub 3 a2 a1) S fun r1 =>
  pk (abin Try.prog .sub 3 r1 (AV.int .i64 1)) S fun r2 =>
  pk (abin Try.prog .quo 3 r2 (AV.int .i64 2)) S fun r3 =>
  (aloop (s134_0 C run a0 a1 r1) C.N [r3] S).bind fun
  | AOut.norm _ _ => (none)
  | AOut.exit x7 l7 S7 => (if x7 = 0 then (pk (abin Try.prog .sub 3 r1 (AV.int .i64 1)) S7 fun r8 =>
  (aloop (s134_1 C run a0 a1) C.N [r8] S7).bind fun
  | AOut.norm _ _ => (none)
  | AOut.exit x22 l22 S22 => (if x22 = 2 then (some (und, S22)) else (none))
  | AOut.ret l22 S22 => (some (und, S22))) else (none))
  | AOut.ret l7 S7 => (some (und, S7))
theorem t134 (N d : Nat) (a0 a1 a2 : AV) (S : St) : R N (d + 1) 134 [a0, a1, a2] S = b134 (cfg N) (R N d) a0 a1 a2 S := by unfold R; kernel_rfl
def b142 (C : Cfg) (run : RunT) (a0 : AV) (S : St) : OA :=
  (pk (abin Try.prog .geq 167 a0 (AV.int .u32 65536)) S fun r1 =>
  ifA r1
  (pk (abin Try.prog .shr 167 a0 (AV.int .u64 16)) S fun r2 =>
  some (AOut.norm [r2, AV.int .i64 16] S))
  (some (AOut.norm [a0, AV.int .i64 0] S))).bind fun
  | AOut.norm l3 S3 => ((pk (abin Try.prog .geq 167 ((gd l3 0)) (AV.int .u32 256)) S3 fun r4 =>
  ifA r4
  (pk (abin Try.prog .shr 167 ((gd l3 0)) (AV.int .u64 8)) S3 fun r5 =>
  pk (abin Try.prog .add 3 ((gd l3 1)) (AV.int .i64 8)) S3 fun r6 =>
  some (AOut.norm [r5, r6] S3))
  (some (AOut.norm [(gd l3 0), (gd l3 1)] S3))).bind fun
  | AOut.norm l7 S7 => (pk (aconv Try.prog 167 5 ((gd l7 0)) S7) S7 fun r8 =>
  pk (sindex (AV.str ⟨#[0, 1, 2, 2, 3, 3, 3, 3, 4, 4, 4, 4, 4, 4, 4, 4, 5, 5, 5, 5, 5, 5, 5, 5, 5, 5, 5, 5, 5, 5, 5, 5, 6, 6, 6, 6, 6, 6, 6, 6, 6, 6, 6, 6, 6, 6, 6, 6, 6, 6, 6, 6, 6, 6, 6, 6, 6, 6, 6, 6, 6, 6, 6, 6, 7, 7, 7, 7, 7, 7, 7, 7, 7, 7, 7, 7, 7, 7, 7, 7, 7, 7, 7, 7, 7, 7, 7, 7, 7, 7, 7, 7, 7, 7, 7, 7, 7, 7, 7, 7, 7, 7, 7, 7, 7, 7, 7, 7, 7, 7, 7, 7, 7, 7, 7, 7, 7, 7, 7, 7, 7, 7, 7, 7, 7, 7, 7, 7, 8, 8, 8, 8, 8, 8, 8, 8, 8, 8, 8, 8, 8, 8, 8, 8, 8, 8, 8, 8, 8, 8, 8, 8, 8, 8, 8, 8, 8, 8, 8, 8, 8, 8, 8, 8, 8, 8, 8, 8, 8, 8, 8, 8, 8, 8, 8, 8, 8, 8, 8, 8, 8, 8, 8, 8, 8, 8, 8, 8, 8, 8, 8, 8, 8, 8, 8, 8, 8, 8, 8, 8, 8, 8, 8, 8, 8, 8, 8, 8, 8, 8, 8, 8, 8, 8, 8, 8, 8, 8, 8, 8, 8, 8, 8, 8, 8, 8, 8, 8, 8, 8, 8, 8, 8, 8, 8, 8, 8, 8, 8, 8, 8, 8, 8, 8, 8, 8, 8, 8, 8, 8, 8, 8, 8, 8, 8, 8]⟩) r8) S7 fun r9 =>
  pk (aconv Try.prog 5 3 r9 S7) S7 fun r10 =>
  pk (bin2 Try.prog .add 3 ((gd l7 1)) r10) S7 fun r11 =>
  some (r11, S7))
  | AOut.exit x7 l7 S7 => (none)
  | AOut.ret l7 S7 => (some ((gd l7 1), S7)))
  | AOut.exit x3 l3 S3 => (none)
  | AOut.ret l3 S3 => (some ((gd l3 1), S3))
theorem t142 (N d : Nat) (a0 : AV) (S : St) : R N (d + 1) 142 [a0] S = b142 (cfg N) (R N d) a0 S := by unfold R; kernel_rfl
def b143 (C : Cfg) (run : RunT) (a0 : AV) (S : St) : OA :=
  (pk (abin Try.prog .geq 169 a0 (AV.int .u64 4294967296)) S fun r1 =>
  ifA r1
  (pk (abin Try.prog .shr 169 a0 (AV.int .u64 32)) S fun r2 =>
  some (AOut.norm [r2, AV.int .i64 32] S))
  (some (AOut.norm [a0, AV.int .i64 0] S))).bind fun
  | AOut.norm l3 S3 => ((pk (abin Try.prog .geq 169 ((gd l3 0)) (AV.int .u64 65536)) S3 fun r4 =>
  ifA r4
  (pk (abin Try.prog .shr 169 ((gd l3 0)) (AV.int .u64 16)) S3 fun r5 =>
  pk (abin Try.prog .add 3 ((gd l3 1)) (AV.int .i64 16)) S3 fun r6 =>
  some (AOut.norm [r5, r6] S3))
  (some (AOut.norm [(gd l3 0), (gd l3 1)] S3))).bind fun
  | AOut.norm l7 S7 => ((pk (abin Try.prog .geq 169 ((gd l7 0)) (AV.int .u64 256)) S7 fun r8 =>
  ifA r8
  (pk (abin Try.prog .shr 169 ((gd l7 0)) (AV.int .u64 8)) S7 fun r9 =>
  pk (abin Try.prog .add 3 ((gd l7 1)) (AV.int .i64 8)) S7 fun r10 =>
  some (AOut.norm [r9, r10] S7))
  (some (AOut.norm [(gd l7 0), (gd l7 1)] S7))).bind fun
  | AOut.norm l11 S11 => (pk (aconv Try.prog 169 5 ((gd l11 0)) S11) S11 fun r12 =>
  pk (sindex (AV.str ⟨#[0, 1, 2, 2, 3, 3, 3, 3, 4, 4, 4, 4, 4, 4, 4, 4, 5, 5, 5, 5, 5, 5, 5, 5, 5, 5, 5, 5, 5, 5, 5, 5, 6, 6, 6, 6, 6, 6, 6, 6, 6, 6, 6, 6, 6, 6, 6, 6, 6, 6, 6, 6, 6, 6, 6, 6, 6, 6, 6, 6, 6, 6, 6, 6, 7, 7, 7, 7, 7, 7, 7, 7, 7, 7, 7, 7, 7, 7, 7, 7, 7, 7, 7, 7, 7, 7, 7, 7, 7, 7, 7, 7, 7, 7, 7, 7, 7, 7, 7, 7, 7, 7, 7, 7, 7, 7, 7, 7, 7, 7, 7, 7, 7, 7, 7, 7, 7, 7, 7, 7, 7, 7, 7, 7, 7, 7, 7, 7, 8, 8, 8, 8, 8, 8, 8, 8, 8, 8, 8, 8, 8, 8, 8, 8, 8, 8, 8, 8, 8, 8, 8, 8, 8, 8, 8, 8, 8, 8, 8, 8, 8, 8, 8, 8, 8, 8, 8, 8, 8, 8, 8, 8, 8, 8, 8, 8, 8, 8, 8, 8, 8, 8, 8, 8, 8, 8, 8, 8, 8, 8, 8, 8, 8, 8, 8, 8, 8, 8, 8, 8, 8, 8, 8, 8, 8, 8, 8, 8, 8, 8, 8, 8, 8, 8, 8, 8, 8, 8, 8, 8, 8, 8, 8, 8, 8, 8, 8, 8, 8, 8, 8, 8, 8, 8, 8, 8, 8, 8, 8, 8, 8, 8, 8, 8, 8, 8, 8, 8, 8, 8, 8, 8, 8, 8, 8, 8]⟩) r12) S11 fun r13 =>
  pk (aconv Try.prog 5 3 r13 S11) S11 fun r14 =>
  pk (bin2 Try.prog .add 3 ((gd l11 1)) r14) S11 fun r15 =>
  some (r15, S11))
  | AOut.exit x11 l11 S11 => (none)
  | AOut.ret l11 S11 => (some ((gd l11 1), S11)))
  | AOut.exit x7 l7 S7 => (none)
  | AOut.ret l7 S7 => (some ((gd l7 1), S7)))
  | AOut.exit x3 l3 S3 => (none)
  | AOut.ret l3 S3 => (some ((gd l3 1), S3))
theorem t143 (N d : Nat) (a0 : AV) (S : St) : R N (d + 1) 143 [a0] S = b143 (cfg N) (R N d) a0 S := by unfold R; kernel_rfl
def b129 (C : Cfg) (run : RunT) (a0 : AV) (S : St) : OA :=
  pq (call0 run 143 [a0] S) fun r1 =>
  some (r1, S)
theorem t129 (N d : Nat) (a0 : AV) (S : St) : R N (d + 1) 129 [a0] S = b129 (cfg N) (R N d) a0 S := by unfold R; kernel_rfl
def b146 (C : Cfg) (run : RunT) (a0 : AV) (S : St) : OA :=
  pk (aconv Try.prog 3 154 a0 S) S fun r1 =>
  pq (call0 run 129 [r1] S) fun r2 =>
  pk (abin Try.prog .shl 154 (AV.int .u64 1) r2) S fun r3 =>
  some (r3, S)
theorem t146 (N d : Nat) (a0 : AV) (S : St) : R N (d + 1) 146 [a0] S = b146 (cfg N) (R N d) a0 S := by unfold R; kernel_rfl
def b147 (C : Cfg) (run : RunT) (a0 : AV) (S : St) : OA :=
  pq (nilA a0 S) fun r1 =>
  pk (ld1 S r1) S fun r2 =>
  pq (nilA a0 S) fun r3 =>
  pk (ld1 S r3) S fun r4 =>
  pk (abin Try.prog .shl 171 r4 (AV.int .u64 13)) S fun r5 =>
  pk (bin2 Try.prog .xor 171 r2 r5) S fun r6 =>
  pq (nilA a0 S) fun r7 =>
  pe (storeA 1 r7 r6 S) fun r8 S8 =>
  pq (nilA a0 S8) fun r9 =>
  pk (ld1 S8 r9) S8 fun r10 =>
  pq (nilA a0 S8) fun r11 =>
  pk (ld1 S8 r11) S8 fun r12 =>
  pk (abin Try.prog .shr 171 r12 (AV.int .u64 7)) S8 fun r13 =>
  pk (bin2 Try.prog .xor 171 r10 r13) S8 fun r14 =>
  pq (nilA a0 S8) fun r15 =>
  pe (storeA 1 r15 r14 S8) fun r16 S16 =>
  pq (nilA a0 S16) fun r17 =>
  pk (ld1 S16 r17) S16 fun r18 =>
  pq (nilA a0 S16) fun r19 =>
  pk (ld1 S16 r19) S16 fun r20 =>
  pk (abin Try.prog .shl 171 r20 (AV.int .u64 17)) S16 fun r21 =>
  pk (bin2 Try.prog .xor 171 r18 r21) S16 fun r22 =>
  pq (nilA a0 S16) fun r23 =>
  pe (storeA 1 r23 r22 S16) fun r24 S24 =>
  pq (nilA a0 S24) fun r25 =>
  pk (ld1 S24 r25) S24 fun r26 =>
  some (r26, S24)
theorem t147 (N d : Nat) (a0 : AV) (S : St) : R N (d + 1) 147 [a0] S = b147 (cfg N) (R N d) a0 S := by unfold R; kernel_rfl
def s135_0 (C : Cfg) (run : RunT) (a0 : AV) (a1 : AV) (r1 : AV) (r4 : AV) (r6 : AV) (l : List AV) (S : St) : Option AOut :=
  pk (abin Try.prog .quo 3 r1 (AV.int .i64 4)) S fun r11 =>
  pk (abin Try.prog .mul 3 r11 (AV.int .i64 2)) S fun r12 =>
  pk (bin2 Try.prog .add 3 a1 r12) S fun r13 =>
  pk (abin Try.prog .add 3 r13 (AV.int .i64 1)) S fun r14 =>
  pk (bin2 Try.prog .leq 3 ((gd l 0)) r14) S fun r15 =>
  ifA r15
  ((pe (callS run 147 [r4] S) fun r16 S16 =>
  pk (abin Try.prog .sub 154 r6 (AV.int .u64 1)) S16 fun r17 =>
  pk (bin2 Try.prog .and 154 r16 r17) S16 fun r18 =>
  pk (aconv Try.prog 154 3 r18 S16) S16 fun r19 =>
  (pk (bin2 Try.prog .geq 3 r19 r1) S16 fun r20 =>
  ifA r20
  (pk (bin2 Try.prog .sub 3 r19 r1) S16 fun r21 =>
  some (AOut.norm [r21] S16))
  (some (AOut.norm [r19] S16))).bind fun
  | AOut.norm l22 S22 => (pk (bin2 Try.prog .add 3 a1 ((gd l22 0))) S22 fun r23 =>
  pk (bin2 Try.prog .add 3 a1 ((gd l22 0))) S22 fun r24 =>
  pk (pindex 1 a0 r24 S22) S22 fun r25 =>
  pk (ld1 S22 r25) S22 fun r26 =>
  pk (pindex 1 a0 ((gd l 0)) S22) S22 fun r27 =>
  pk (ld1 S22 r27) S22 fun r28 =>
  pk (pindex 1 a0 ((gd l 0)) S22) S22 fun r29 =>
  pe (storeA 1 r29 r26 S22) fun r30 S30 =>
  pk (pindex 1 a0 r23 S30) S30 fun r31 =>
  pe (storeA 1 r31 r28 S30) fun r32 S32 =>
  some (AOut.norm [] S32))
  | AOut.exit x22 l22 S22 => (if x22 = 1 then (some (AOut.norm [] S22)) else (some (AOut.exit x22 [] S22)))
  | AOut.ret l22 S22 => (some (AOut.ret [] S22))).bind fun
  | AOut.norm l33 S33 => (pk (abin Try.prog .add 3 ((gd l 0)) (AV.int .i64 1)) S33 fun r34 =>
  some (AOut.norm [r34] S33))
  | AOut.exit x33 l33 S33 => (some (AOut.exit x33 [(gd l 0)] S33))
  | AOut.ret l33 S33 => (some (AOut.ret [(gd l 0)] S33)))
  (some (AOut.exit 0 [(gd l 0)] S))
def b135 (C : Cfg) (run : RunT) (a0 a1 a2 : AV) (S : St) : OA :=
  pk (bin2 Try.prog .sub 3 a2 a1) S fun r1 =>
  pk (abin Try.prog .geq 3 r1 (AV.int .i64 8)) S fun r2 =>
  ifA r2
  (pk (aconv Try.prog 3 171 r1 S) S fun r3 =>
  pe (some (newBox S [AV.int .u64 0])) fun r4 S4 =>
  pe (storeA 1 r4 r3 S4) fun r5 S5 =>
  pq (call0 run 146 [r1] S5) fun r6 =>
  pk (abin Try.prog .quo 3 r1 (AV.int .i64 4)) S5 fun r7 =>
  pk (abin Try.prog .mul 3 r7 (AV.int .i64 2)) S5 fun r8 =>
  pk (bin2 Try.prog .add 3 a1 r8) S5 fun r9 =>
  pk (abin Try.prog .sub 3 r9 (AV.int .i64 1)) S5 fun r10 =>
  (aloop (s135_0 C run a0 a1 r1 r4 r6) C.N [r10] S5).bind fun
  | AOut.norm _ _ => (none)
  | AOut.exit x35 l35 S35 => (if x35 = 0 then (some (und, S35)) else (none))
  | AOut.ret l35 S35 => (some (und, S35)))
  (some (und, S))
theorem t135 (N d : Nat) (a0 a1 a2 : AV) (S : St) : R N (d + 1) 135 [a0, a1, a2] S = b135 (cfg N) (R N d) a0 a1 a2 S := by unfold R; kernel_rfl
def b151 (C : Cfg) (run : RunT) (a0 a1 a2 a3 : AV) (S : St) : OA :=
  pk (pindex 1 a0 a2 S) S fun r1 =>
  pk (ld1 S r1) S fun r2 =>
  pk (pindex 1 a0 a1 S) S fun r3 =>
  pk (ld1 S r3) S fun r4 =>
  pq (call0 run 139 [r2, r4] S) fun r5 =>
  ifA r5
  (pq (nilA a3 S) fun r6 =>
  pk (ld1 S r6) S fun r7 =>
  pk (abin Try.prog .add 3 r7 (AV.int .i64 1)) S fun r8 =>
  pq (nilA a3 S) fun r9 =>
  pe (storeA 1 r9 r8 S) fun r10 S10 =>
  some (AV.tup [a2, a1], S10))
  (some (AV.tup [a1, a2], S))
theorem t151 (N d : Nat) (a0 a1 a2 a3 : AV) (S : St) : R N (d + 1) 151 [a0, a1, a2, a3] S = b151 (cfg N) (R N d) a0 a1 a2 a3 S := by unfold R; kernel_rfl
def b149 (C : Cfg) (run : RunT) (a0 a1 a2 a3 a4 : AV) (S : St) : OA :=
  pe (callS run 151 [a0, a1, a2, a4] S) fun r1 S1 =>
  pq (extA r1 0 S1) fun r2 =>
  pq (extA r1 1 S1) fun r3 =>
  pe (callS run 151 [a0, r3, a3, a4] S1) fun r4 S4 =>
  pq (extA r4 0 S4) fun r5 =>
  pq (extA r4 1 S4) fun r6 =>
  pe (callS run 151 [a0, r2, r5, a4] S4) fun r7 S7 =>
  pq (extA r7 0 S7) fun r8 =>
  pq (extA r7 1 S7) fun r9 =>
  some (r9, S7)
theorem t149 (N d : Nat) (a0 a1 a2 a3 a4 : AV) (S : St) : R N (d + 1) 149 [a0, a1, a2, a3, a4] S = b149 (cfg N) (R N d) a0 a1 a2 a3 a4 S := by unfold R; kernel_rfl
def b148 (C : Cfg) (run : RunT) (a0 a1 a2 : AV) (S : St) : OA :=
  pk (abin Try.prog .sub 3 a1 (AV.int .i64 1)) S fun r1 =>
  pk (abin Try.prog .add 3 a1 (AV.int .i64 1)) S fun r2 =>
  pe (callS run 149 [a0, r1, a1, r2, a2] S) fun r3 S3 =>
  some (r3, S3)
theorem t148 (N d : Nat) (a0 a1 a2 : AV) (S : St) : R N (d + 1) 148 [a0, a1, a2] S = b148 (cfg N) (R N d) a0 a1 a2 S := by unfold R; kernel_rfl
def b136 (C : Cfg) (run : RunT) (a0 a1 a2 : AV) (S : St) : OA :=
  pk (bin2 Try.prog .sub 3 a2 a1) S fun r1 =>
  pe (some (newBox S [AV.int .i64 0])) fun r2 S2 =>
  pk (abin Try.prog .quo 3 r1 (AV.int .i64 4)) S2 fun r3 =>
  pk (abin Try.prog .mul 3 r3 (AV.int .i64 1)) S2 fun r4 =>
  pk (bin2 Try.prog .add 3 a1 r4) S2 fun r5 =>
  pk (abin Try.prog .quo 3 r1 (AV.int .i64 4)) S2 fun r6 =>
  pk (abin Try.prog .mul 3 r6 (AV.int .i64 2)) S2 fun r7 =>
  pk (bin2 Try.prog .add 3 a1 r7) S2 fun r8 =>
  pk (abin Try.prog .quo 3 r1 (AV.int .i64 4)) S2 fun r9 =>
  pk (abin Try.prog .mul 3 r9 (AV.int .i64 3)) S2 fun r10 =>
  pk (bin2 Try.prog .add 3 a1 r10) S2 fun r11 =>
  (pk (abin Try.prog .geq 3 r1 (AV.int .i64 8)) S2 fun r12 =>
  ifA r12
  ((pk (abin Try.prog .geq 3 r1 (AV.int .i64 50)) S2 fun r13 =>
  ifA r13
  (pe (callS run 148 [a0, r5, r2] S2) fun r14 S14 =>
  pe (callS run 148 [a0, r8, r2] S14) fun r15 S15 =>
  pe (callS run 148 [a0, r11, r2] S15) fun r16 S16 =>
  some (AOut.norm [r14, r15, r16] S16))
  (some (AOut.norm [r5, r8, r11] S2))).bind fun
  | AOut.norm l17 S17 => (pe (callS run 149 [a0, (gd l17 0), (gd l17 1), (gd l17 2), r2] S17) fun r18 S18 =>
  some (AOut.norm [r18] S18))
  | AOut.exit x17 l17 S17 => (some (AOut.exit x17 [(gd l17 1)] S17))
  | AOut.ret l17 S17 => (some (AOut.ret [(gd l17 1)] S17)))
  (some (AOut.norm [r8] S2))).bind fun
  | AOut.norm l19 S19 => (pk (ld1 S19 r2) S19 fun r20 =>
  pk (abin Try.prog .eql 3 r20 (AV.int .i64 0)) S19 fun r21 =>
  ifA r21
  (some (AV.tup [(gd l19 0), AV.int .i64 1], S19))
  (pk (abin Try.prog .eql 3 r20 (AV.int .i64 12)) S19 fun r22 =>
  ifA r22
  (some (AV.tup [(gd l19 0), AV.int .i64 2], S19))
  (some (AV.tup [(gd l19 0), AV.int .i64 0], S19))))
  | AOut.exit x19 l19 S19 => (none)
  | AOut.ret l19 S19 => (some (AV.tup [AV.int .i64 0, AV.int .i64 0], S19))
theorem t136 (N d : Nat) (a0 a1 a2 : AV) (S : St) : R N (d + 1) 136 [a0, a1, a2] S = b136 (cfg N) (R N d) a0 a1 a2 S := by unfold R; kernel_rfl
def s137_0 (C : Cfg) (run : RunT) (a0 : AV) (l : List AV) (S : St) : Option AOut :=
  pk (bin2 Try.prog .lss 3 ((gd l 0)) ((gd l 1))) S fun r2 =>
  ifA r2
  (pk (pindex 1 a0 ((gd l 1)) S) S fun r3 =>
  pk (ld1 S r3) S fun r4 =>
  pk (pindex 1 a0 ((gd l 0)) S) S fun r5 =>
  pk (ld1 S r5) S fun r6 =>
  pk (pindex 1 a0 ((gd l 0)) S) S fun r7 =>
  pe (storeA 1 r7 r4 S) fun r8 S8 =>
  pk (pindex 1 a0 ((gd l 1)) S8) S8 fun r9 =>
  pe (storeA 1 r9 r6 S8) fun r10 S10 =>
  pk (abin Try.prog .add 3 ((gd l 0)) (AV.int .i64 1)) S10 fun r11 =>
  pk (abin Try.prog .sub 3 ((gd l 1)) (AV.int .i64 1)) S10 fun r12 =>
  some (AOut.norm [r11, r12] S10))
  (some (AOut.exit 0 [(gd l 0), (gd l 1)] S))
def b137 (C : Cfg) (run : RunT) (a0 a1 a2 : AV) (S : St) : OA :=
  pk (abin Try.prog .sub 3 a2 (AV.int .i64 1)) S fun r1 =>
  (aloop (s137_0 C run a0) C.N [a1, r1] S).bind fun
  | AOut.norm _ _ => (none)
  | AOut.exit x13 l13 S13 => (if x13 = 0 then (some (und, S13)) else (none))
  | AOut.ret l13 S13 => (some (und, S13))
theorem t137 (N d : Nat) (a0 a1 a2 : AV) (S : St) : R N (d + 1) 137 [a0, a1, a2] S = b137 (cfg N) (R N d) a0 a1 a2 S := by unfold R; kernel_rfl
def s138_0 (C : Cfg) (run : RunT) (a0 : AV) (a2 : AV) (l3 : List AV) (S : St) : Option AOut :=
  ((pk (bin2 Try.prog .lss 3 ((gd l3 0)) a2) S fun r4 =>
  guardA r4 true
  (pk (pindex 1 a0 ((gd l3 0)) S) S fun r5 =>
  pk (ld1 S r5) S fun r6 =>
  pk (abin Try.prog .sub 3 ((gd l3 0)) (AV.int .i64 1)) S fun r7 =>
  pk (pindex 1 a0 r7 S) S fun r8 =>
  pk (ld1 S r8) S fun r9 =>
  pq (call0 run 139 [r6, r9] S) fun r10 =>
  pk (aun .not r10) S fun r11 =>
  some (AOut.norm [r11] S))
  (some (AOut.norm [AV.bool false] S))).bind fun
  | AOut.norm l12 S12 => (ifA ((gd l12 0))
  (some (AOut.norm [(gd l12 0)] S12))
  (some (AOut.exit 2 [(gd l12 0)] S12)))
  | AOut.exit x12 l12 S12 => (some (AOut.exit x12 [(gd l12 0)] S12))
  | AOut.ret l12 S12 => (some (AOut.ret [(gd l12 0)] S12))).bind fun
  | AOut.norm l13 S13 => (pk (abin Try.prog .add 3 ((gd l3 0)) (AV.int .i64 1)) S13 fun r14 =>
  some (AOut.norm [r14] S13))
  | AOut.exit x13 l13 S13 => (some (AOut.exit x13 [(gd l3 0)] S13))
  | AOut.ret l13 S13 => (some (AOut.ret [(gd l3 0)] S13))
def s138_1 (C : Cfg) (run : RunT) (a0 : AV) (l32 : List AV) (S : St) : Option AOut :=
  pk (abin Try.prog .geq 3 ((gd l32 0)) (AV.int .i64 1)) S fun r33 =>
  ifA r33
  (pk (pindex 1 a0 ((gd l32 0)) S) S fun r34 =>
  pk (ld1 S r34) S fun r35 =>
  pk (abin Try.prog .sub 3 ((gd l32 0)) (AV.int .i64 1)) S fun r36 =>
  pk (pindex 1 a0 r36 S) S fun r37 =>
  pk (ld1 S r37) S fun r38 =>
  pq (call0 run 139 [r35, r38] S) fun r39 =>
  pk (aun .not r39) S fun r40 =>
  ifA r40
  (some (AOut.exit 4 [(gd l32 0)] S))
  (pk (abin Try.prog .sub 3 ((gd l32 0)) (AV.int .i64 1)) S fun r41 =>
  pk (abin Try.prog .sub 3 ((gd l32 0)) (AV.int .i64 1)) S fun r42 =>
  pk (pindex 1 a0 r42 S) S fun r43 =>
  pk (ld1 S r43) S fun r44 =>
  pk (pindex 1 a0 ((gd l32 0)) S) S fun r45 =>
  pk (ld1 S r45) S fun r46 =>
  pk (pindex 1 a0 ((gd l32 0)) S) S fun r47 =>
  pe (storeA 1 r47 r44 S) fun r48 S48 =>
  pk (pindex 1 a0 r41 S48) S48 fun r49 =>
  pe (storeA 1 r49 r46 S48) fun r50 S50 =>
  pk (abin Try.prog .sub 3 ((gd l32 0)) (AV.int .i64 1)) S50 fun r51 =>
  some (AOut.norm [r51] S50)))
  (some (AOut.exit 4 [(gd l32 0)] S))
def s138_2 (C : Cfg) (run : RunT) (a0 : AV) (a2 : AV) (l57 : List AV) (S : St) : Option AOut :=
  pk (bin2 Try.prog .lss 3 ((gd l57 0)) a2) S fun r58 =>
  ifA r58
  (pk (pindex 1 a0 ((gd l57 0)) S) S fun r59 =>
  pk (ld1 S r59) S fun r60 =>
  pk (abin Try.prog .sub 3 ((gd l57 0)) (AV.int .i64 1)) S fun r61 =>
  pk (pindex 1 a0 r61 S) S fun r62 =>
  pk (ld1 S r62) S fun r63 =>
  pq (call0 run 139 [r60, r63] S) fun r64 =>
  pk (aun .not r64) S fun r65 =>
  ifA r65
  (some (AOut.exit 6 [(gd l57 0)] S))
  (pk (abin Try.prog .sub 3 ((gd l57 0)) (AV.int .i64 1)) S fun r66 =>
  pk (abin Try.prog .sub 3 ((gd l57 0)) (AV.int .i64 1)) S fun r67 =>
  pk (pindex 1 a0 r67 S) S fun r68 =>
  pk (ld1 S r68) S fun r69 =>
  pk (pindex 1 a0 ((gd l57 0)) S) S fun r70 =>
  pk (ld1 S r70) S fun r71 =>
  pk (pindex 1 a0 ((gd l57 0)) S) S fun r72 =>
  pe (storeA 1 r72 r69 S) fun r73 S73 =>
  pk (pindex 1 a0 r66 S73) S73 fun r74 =>
  pe (storeA 1 r74 r71 S73) fun r75 S75 =>
  pk (abin Try.prog .add 3 ((gd l57 0)) (AV.int .i64 1)) S75 fun r76 =>
  some (AOut.norm [r76] S75)))
  (some (AOut.exit 6 [(gd l57 0)] S))
def s138_3 (C : Cfg) (run : RunT) (a0 : AV) (a1 : AV) (a2 : AV) (l : List AV) (S : St) : Option AOut :=
  pk (abin Try.prog .lss 3 ((gd l 2)) (AV.int .i64 5)) S fun r2 =>
  ifA r2
  (((aloop (s138_0 C run a0 a2) C.N [(gd l 1)] S).bind fun
  | AOut.norm _ _ => (none)
  | AOut.exit x15 l15 S15 => (if x15 = 2 then (pk (bin2 Try.prog .eql 3 ((gd l15 0)) a2) S15 fun r16 =>
  ifA r16
  (some (AOut.ret [AV.bool true, (gd l15 0)] S15))
  (pk (bin2 Try.prog .sub 3 a2 a1) S15 fun r17 =>
  pk (abin Try.prog .lss 3 r17 (AV.int .i64 50)) S15 fun r18 =>
  ifA r18
  (some (AOut.ret [AV.bool false, (gd l15 0)] S15))
  (pk (abin Try.prog .sub 3 ((gd l15 0)) (AV.int .i64 1)) S15 fun r19 =>
  pk (abin Try.prog .sub 3 ((gd l15 0)) (AV.int .i64 1)) S15 fun r20 =>
  pk (pindex 1 a0 r20 S15) S15 fun r21 =>
  pk (ld1 S15 r21) S15 fun r22 =>
  pk (pindex 1 a0 ((gd l15 0)) S15) S15 fun r23 =>
  pk (ld1 S15 r23) S15 fun r24 =>
  pk (pindex 1 a0 ((gd l15 0)) S15) S15 fun r25 =>
  pe (storeA 1 r25 r22 S15) fun r26 S26 =>
  pk (pindex 1 a0 r19 S26) S26 fun r27 =>
  pe (storeA 1 r27 r24 S26) fun r28 S28 =>
  (pk (bin2 Try.prog .sub 3 ((gd l15 0)) a1) S28 fun r29 =>
  pk (abin Try.prog .geq 3 r29 (AV.int .i64 2)) S28 fun r30 =>
  ifA r30
  (pk (abin Try.prog .sub 3 ((gd l15 0)) (AV.int .i64 1)) S28 fun r31 =>
  (aloop (s138_1 C run a0) C.N [r31] S28).bind fun
  | AOut.norm _ _ => (none)
  | AOut.exit x52 l52 S52 => (if x52 = 4 then (some (AOut.norm [] S52)) else (some (AOut.exit x52 [] S52)))
  | AOut.ret l52 S52 => (some (AOut.ret [] S52)))
  (some (AOut.norm [] S28))).bind fun
  | AOut.norm l53 S53 => (pk (bin2 Try.prog .sub 3 a2 ((gd l15 0))) S53 fun r54 =>
  pk (abin Try.prog .geq 3 r54 (AV.int .i64 2)) S53 fun r55 =>
  ifA r55
  (pk (abin Try.prog .add 3 ((gd l15 0)) (AV.int .i64 1)) S53 fun r56 =>
  (aloop (s138_2 C run a0 a2) C.N [r56] S53).bind fun
  | AOut.norm _ _ => (none)
  | AOut.exit x77 l77 S77 => (if x77 = 6 then (some (AOut.norm [(gd l 0), (gd l15 0)] S77)) else (if x77 = 1 then (some (AOut.norm [(gd l 0), (gd l15 0)] S77)) else (some (AOut.exit x77 [(gd l 0), (gd l15 0)] S77))))
  | AOut.ret l77 S77 => (some (AOut.ret [(gd l 0), (gd l15 0)] S77)))
  (some (AOut.norm [(gd l 0), (gd l15 0)] S53)))
  | AOut.exit x53 l53 S53 => (if x53 = 1 then (some (AOut.norm [(gd l 0), (gd l15 0)] S53)) else (some (AOut.exit x53 [(gd l 0), (gd l15 0)] S53)))
  | AOut.ret l53 S53 => (some (AOut.ret [(gd l 0), (gd l15 0)] S53))))) else (if x15 = 1 then (some (AOut.norm [(gd l 0), (gd l15 0)] S15)) else (some (AOut.exit x15 [(gd l 0), (gd l15 0)] S15))))
  | AOut.ret l15 S15 => (some (AOut.ret [(gd l 0), (gd l15 0)] S15))).bind fun
  | AOut.norm l78 S78 => (pk (abin Try.prog .add 3 ((gd l 2)) (AV.int .i64 1)) S78 fun r79 =>
  some (AOut.norm [(gd l78 0), (gd l78 1), r79] S78))
  | AOut.exit x78 l78 S78 => (some (AOut.exit x78 [(gd l78 0), (gd l78 1), (gd l 2)] S78))
  | AOut.ret l78 S78 => (some (AOut.ret [(gd l78 0), (gd l78 1), (gd l 2)] S78)))
  (some (AOut.exit 0 [(gd l 0), (gd l 1), (gd l 2)] S))
def b138 (C : Cfg) (run : RunT) (a0 a1 a2 : AV) (S : St) : OA :=
  pk (abin Try.prog .add 3 a1 (AV.int .i64 1)) S fun r1 =>
  (aloop (s138_3 C run a0 a1 a2) C.N [AV.bool false, r1, AV.int .i64 0] S).bind fun
  | AOut.norm _ _ => (none)
  | AOut.exit x80 l80 S80 => (if x80 = 0 then (some (AV.bool false, S80)) else (none))
  | AOut.ret l80 S80 => (some ((gd l80 0), S80))
theorem t138 (N d : Nat) (a0 a1 a2 : AV) (S : St) : R N (d + 1) 138 [a0, a1, a2] S = b138 (cfg N) (R N d) a0 a1 a2 S := by unfold R; kernel_rfl
def s140_0 (C : Cfg) (run : RunT) (a0 : AV) (a1 : AV) (l : List AV) (l11 : List AV) (S : St) : Option AOut :=
  ((pk (bin2 Try.prog .leq 3 ((gd l11 0)) ((gd l 1))) S fun r12 =>
  guardA r12 true
  (pk (pindex 1 a0 a1 S) S fun r13 =>
  pk (ld1 S r13) S fun r14 =>
  pk (pindex 1 a0 ((gd l11 0)) S) S fun r15 =>
  pk (ld1 S r15) S fun r16 =>
  pq (call0 run 139 [r14, r16] S) fun r17 =>
  pk (aun .not r17) S fun r18 =>
  some (AOut.norm [r18] S))
  (some (AOut.norm [AV.bool false] S))).bind fun
  | AOut.norm l19 S19 => (ifA ((gd l19 0))
  (some (AOut.norm [(gd l19 0)] S19))
  (some (AOut.exit 2 [(gd l19 0)] S19)))
  | AOut.exit x19 l19 S19 => (some (AOut.exit x19 [(gd l19 0)] S19))
  | AOut.ret l19 S19 => (some (AOut.ret [(gd l19 0)] S19))).bind fun
  | AOut.norm l20 S20 => (pk (abin Try.prog .add 3 ((gd l11 0)) (AV.int .i64 1)) S20 fun r21 =>
  some (AOut.norm [r21] S20))
  | AOut.exit x20 l20 S20 => (some (AOut.exit x20 [(gd l11 0)] S20))
  | AOut.ret l20 S20 => (some (AOut.ret [(gd l11 0)] S20))
def s140_1 (C : Cfg) (run : RunT) (a0 : AV) (a1 : AV) (l22 : List AV) (l23 : List AV) (S : St) : Option AOut :=
  ((pk (bin2 Try.prog .leq 3 ((gd l22 0)) ((gd l23 0))) S fun r24 =>
  guardA r24 true
  (pk (pindex 1 a0 a1 S) S fun r25 =>
  pk (ld1 S r25) S fun r26 =>
  pk (pindex 1 a0 ((gd l23 0)) S) S fun r27 =>
  pk (ld1 S r27) S fun r28 =>
  pq (call0 run 139 [r26, r28] S) fun r29 =>
  some (AOut.norm [r29] S))
  (some (AOut.norm [AV.bool false] S))).bind fun
  | AOut.norm l30 S30 => (ifA ((gd l30 0))
  (some (AOut.norm [(gd l30 0)] S30))
  (some (AOut.exit 4 [(gd l30 0)] S30)))
  | AOut.exit x30 l30 S30 => (some (AOut.exit x30 [(gd l30 0)] S30))
  | AOut.ret l30 S30 => (some (AOut.ret [(gd l30 0)] S30))).bind fun
  | AOut.norm l31 S31 => (pk (abin Try.prog .sub 3 ((gd l23 0)) (AV.int .i64 1)) S31 fun r32 =>
  some (AOut.norm [r32] S31))
  | AOut.exit x31 l31 S31 => (some (AOut.exit x31 [(gd l23 0)] S31))
  | AOut.ret l31 S31 => (some (AOut.ret [(gd l23 0)] S31))
def s140_2 (C : Cfg) (run : RunT) (a0 : AV) (a1 : AV) (l : List AV) (S : St) : Option AOut :=
  (aloop (s140_0 C run a0 a1 l) C.N [(gd l 0)] S).bind fun
  | AOut.norm _ _ => (none)
  | AOut.exit x22 l22 S22 => (if x22 = 2 then ((aloop (s140_1 C run a0 a1 l22) C.N [(gd l 1)] S22).bind fun
  | AOut.norm _ _ => (none)
  | AOut.exit x33 l33 S33 => (if x33 = 4 then (pk (bin2 Try.prog .gtr 3 ((gd l22 0)) ((gd l33 0))) S33 fun r34 =>
  ifA r34
  (some (AOut.exit 0 [(gd l22 0), (gd l33 0)] S33))
  (pk (pindex 1 a0 ((gd l33 0)) S33) S33 fun r35 =>
  pk (ld1 S33 r35) S33 fun r36 =>
  pk (pindex 1 a0 ((gd l22 0)) S33) S33 fun r37 =>
  pk (ld1 S33 r37) S33 fun r38 =>
  pk (pindex 1 a0 ((gd l22 0)) S33) S33 fun r39 =>
  pe (storeA 1 r39 r36 S33) fun r40 S40 =>
  pk (pindex 1 a0 ((gd l33 0)) S40) S40 fun r41 =>
  pe (storeA 1 r41 r38 S40) fun r42 S42 =>
  pk (abin Try.prog .add 3 ((gd l22 0)) (AV.int .i64 1)) S42 fun r43 =>
  pk (abin Try.prog .sub 3 ((gd l33 0)) (AV.int .i64 1)) S42 fun r44 =>
  some (AOut.norm [r43, r44] S42))) else (if x33 = 1 then (some (AOut.norm [(gd l22 0), (gd l33 0)] S33)) else (some (AOut.exit x33 [(gd l22 0), (gd l33 0)] S33))))
  | AOut.ret l33 S33 => (some (AOut.ret [(gd l22 0), (gd l33 0)] S33))) else (if x22 = 1 then (some (AOut.norm [(gd l22 0), (gd l 1)] S22)) else (some (AOut.exit x22 [(gd l22 0), (gd l 1)] S22))))
  | AOut.ret l22 S22 => (some (AOut.ret [(gd l22 0), (gd l 1)] S22))
def b140 (C : Cfg) (run : RunT) (a0 a1 a2 a3 : AV) (S : St) : OA :=
  pk (pindex 1 a0 a3 S) S fun r1 =>
  pk (ld1 S r1) S fun r2 =>
  pk (pindex 1 a0 a1 S) S fun r3 =>
  pk (ld1 S r3) S fun r4 =>
  pk (pindex 1 a0 a1 S) S fun r5 =>
  pe (storeA 1 r5 r2 S) fun r6 S6 =>
  pk (pindex 1 a0 a3 S6) S6 fun r7 =>
  pe (storeA 1 r7 r4 S6) fun r8 S8 =>
  pk (abin Try.prog .add 3 a1 (AV.int .i64 1)) S8 fun r9 =>
  pk (abin Try.prog .sub 3 a2 (AV.int .i64 1)) S8 fun r10 =>
  (aloop (s140_2 C run a0 a1) C.N [r9, r10] S8).bind fun
  | AOut.norm _ _ => (none)
  | AOut.exit x45 l45 S45 => (if x45 = 0 then (some ((gd l45 0), S45)) else (none))
  | AOut.ret l45 S45 => (some (AV.int .i64 0, S45))
theorem t140 (N d : Nat) (a0 a1 a2 a3 : AV) (S : St) : R N (d + 1) 140 [a0, a1, a2, a3] S = b140 (cfg N) (R N d) a0 a1 a2 a3 S := by unfold R; kernel_rfl
def s141_0 (C : Cfg) (run : RunT) (a0 : AV) (a1 : AV) (r10 : AV) (l : List AV) (S : St) : Option AOut :=
  ((pk (bin2 Try.prog .leq 3 ((gd l 0)) r10) S fun r11 =>
  guardA r11 true
  (pk (pindex 1 a0 ((gd l 0)) S) S fun r12 =>
  pk (ld1 S r12) S fun r13 =>
  pk (pindex 1 a0 a1 S) S fun r14 =>
  pk (ld1 S r14) S fun r15 =>
  pq (call0 run 139 [r13, r15] S) fun r16 =>
  some (AOut.norm [r16] S))
  (some (AOut.norm [AV.bool false] S))).bind fun
  | AOut.norm l17 S17 => (ifA ((gd l17 0))
  (some (AOut.norm [(gd l17 0)] S17))
  (some (AOut.exit 0 [(gd l17 0)] S17)))
  | AOut.exit x17 l17 S17 => (some (AOut.exit x17 [(gd l17 0)] S17))
  | AOut.ret l17 S17 => (some (AOut.ret [(gd l17 0)] S17))).bind fun
  | AOut.norm l18 S18 => (pk (abin Try.prog .add 3 ((gd l 0)) (AV.int .i64 1)) S18 fun r19 =>
  some (AOut.norm [r19] S18))
  | AOut.exit x18 l18 S18 => (some (AOut.exit x18 [(gd l 0)] S18))
  | AOut.ret l18 S18 => (some (AOut.ret [(gd l 0)] S18))
def s141_1 (C : Cfg) (run : RunT) (a0 : AV) (a1 : AV) (l20 : List AV) (l : List AV) (S : St) : Option AOut :=
  ((pk (bin2 Try.prog .leq 3 ((gd l20 0)) ((gd l 0))) S fun r21 =>
  guardA r21 true
  (pk (pindex 1 a0 ((gd l 0)) S) S fun r22 =>
  pk (ld1 S r22) S fun r23 =>
  pk (pindex 1 a0 a1 S) S fun r24 =>
  pk (ld1 S r24) S fun r25 =>
  pq (call0 run 139 [r23, r25] S) fun r26 =>
  pk (aun .not r26) S fun r27 =>
  some (AOut.norm [r27] S))
  (some (AOut.norm [AV.bool false] S))).bind fun
  | AOut.norm l28 S28 => (ifA ((gd l28 0))
  (some (AOut.norm [(gd l28 0)] S28))
  (some (AOut.exit 2 [(gd l28 0)] S28)))
  | AOut.exit x28 l28 S28 => (some (AOut.exit x28 [(gd l28 0)] S28))
  | AOut.ret l28 S28 => (some (AOut.ret [(gd l28 0)] S28))).bind fun
  | AOut.norm l29 S29 => (pk (abin Try.prog .sub 3 ((gd l 0)) (AV.int .i64 1)) S29 fun r30 =>
  some (AOut.norm [r30] S29))
  | AOut.exit x29 l29 S29 => (some (AOut.exit x29 [(gd l 0)] S29))
  | AOut.ret l29 S29 => (some (AOut.ret [(gd l 0)] S29))
def s141_2 (C : Cfg) (run : RunT) (a0 : AV) (a1 : AV) (l : List AV) (l51 : List AV) (S : St) : Option AOut :=
  ((pk (bin2 Try.prog .leq 3 ((gd l51 0)) ((gd l 1))) S fun r52 =>
  guardA r52 true
  (pk (pindex 1 a0 ((gd l51 0)) S) S fun r53 =>
  pk (ld1 S r53) S fun r54 =>
  pk (pindex 1 a0 a1 S) S fun r55 =>
  pk (ld1 S r55) S fun r56 =>
  pq (call0 run 139 [r54, r56] S) fun r57 =>
  some (AOut.norm [r57] S))
  (some (AOut.norm [AV.bool false] S))).bind fun
  | AOut.norm l58 S58 => (ifA ((gd l58 0))
  (some (AOut.norm [(gd l58 0)] S58))
  (some (AOut.exit 6 [(gd l58 0)] S58)))
  | AOut.exit x58 l58 S58 => (some (AOut.exit x58 [(gd l58 0)] S58))
  | AOut.ret l58 S58 => (some (AOut.ret [(gd l58 0)] S58))).bind fun
  | AOut.norm l59 S59 => (pk (abin Try.prog .add 3 ((gd l51 0)) (AV.int .i64 1)) S59 fun r60 =>
  some (AOut.norm [r60] S59))
  | AOut.exit x59 l59 S59 => (some (AOut.exit x59 [(gd l51 0)] S59))
  | AOut.ret l59 S59 => (some (AOut.ret [(gd l51 0)] S59))
def s141_3 (C : Cfg) (run : RunT) (a0 : AV) (a1 : AV) (l61 : List AV) (l62 : List AV) (S : St) : Option AOut :=
  ((pk (bin2 Try.prog .leq 3 ((gd l61 0)) ((gd l62 0))) S fun r63 =>
  guardA r63 true
  (pk (pindex 1 a0 ((gd l62 0)) S) S fun r64 =>
  pk (ld1 S r64) S fun r65 =>
  pk (pindex 1 a0 a1 S) S fun r66 =>
  pk (ld1 S r66) S fun r67 =>
  pq (call0 run 139 [r65, r67] S) fun r68 =>
  pk (aun .not r68) S fun r69 =>
  some (AOut.norm [r69] S))
  (some (AOut.norm [AV.bool false] S))).bind fun
  | AOut.norm l70 S70 => (ifA ((gd l70 0))
  (some (AOut.norm [(gd l70 0)] S70))
  (some (AOut.exit 8 [(gd l70 0)] S70)))
  | AOut.exit x70 l70 S70 => (some (AOut.exit x70 [(gd l70 0)] S70))
  | AOut.ret l70 S70 => (some (AOut.ret [(gd l70 0)] S70))).bind fun
  | AOut.norm l71 S71 => (pk (abin Try.prog .sub 3 ((gd l62 0)) (AV.int .i64 1)) S71 fun r72 =>
  some (AOut.norm [r72] S71))
  | AOut.exit x71 l71 S71 => (some (AOut.exit x71 [(gd l62 0)] S71))
  | AOut.ret l71 S71 => (some (AOut.ret [(gd l62 0)] S71))
def s141_4 (C : Cfg) (run : RunT) (a0 : AV) (a1 : AV) (l : List AV) (S : St) : Option AOut :=
  (aloop (s141_2 C run a0 a1 l) C.N [(gd l 0)] S).bind fun
  | AOut.norm _ _ => (none)
  | AOut.exit x61 l61 S61 => (if x61 = 6 then ((aloop (s141_3 C run a0 a1 l61) C.N [(gd l 1)] S61).bind fun
  | AOut.norm _ _ => (none)
  | AOut.exit x73 l73 S73 => (if x73 = 8 then (pk (bin2 Try.prog .gtr 3 ((gd l61 0)) ((gd l73 0))) S73 fun r74 =>
  ifA r74
  (some (AOut.exit 4 [(gd l61 0), (gd l73 0)] S73))
  (pk (pindex 1 a0 ((gd l73 0)) S73) S73 fun r75 =>
  pk (ld1 S73 r75) S73 fun r76 =>
  pk (pindex 1 a0 ((gd l61 0)) S73) S73 fun r77 =>
  pk (ld1 S73 r77) S73 fun r78 =>
  pk (pindex 1 a0 ((gd l61 0)) S73) S73 fun r79 =>
  pe (storeA 1 r79 r76 S73) fun r80 S80 =>
  pk (pindex 1 a0 ((gd l73 0)) S80) S80 fun r81 =>
  pe (storeA 1 r81 r78 S80) fun r82 S82 =>
  pk (abin Try.prog .add 3 ((gd l61 0)) (AV.int .i64 1)) S82 fun r83 =>
  pk (abin Try.prog .sub 3 ((gd l73 0)) (AV.int .i64 1)) S82 fun r84 =>
  some (AOut.norm [r83, r84] S82))) else (if x73 = 5 then (some (AOut.norm [(gd l61 0), (gd l73 0)] S73)) else (some (AOut.exit x73 [(gd l61 0), (gd l73 0)] S73))))
  | AOut.ret l73 S73 => (some (AOut.ret [(gd l61 0), (gd l73 0)] S73))) else (if x61 = 5 then (some (AOut.norm [(gd l61 0), (gd l 1)] S61)) else (some (AOut.exit x61 [(gd l61 0), (gd l 1)] S61))))
  | AOut.ret l61 S61 => (some (AOut.ret [(gd l61 0), (gd l 1)] S61))
def b141 (C : Cfg) (run : RunT) (a0 a1 a2 a3 : AV) (S : St) : OA :=
  pk (pindex 1 a0 a3 S) S fun r1 =>
  pk (ld1 S r1) S fun r2 =>
  pk (pindex 1 a0 a1 S) S fun r3 =>
  pk (ld1 S r3) S fun r4 =>
  pk (pindex 1 a0 a1 S) S fun r5 =>
  pe (storeA 1 r5 r2 S) fun r6 S6 =>
  pk (pindex 1 a0 a3 S6) S6 fun r7 =>
  pe (storeA 1 r7 r4 S6) fun r8 S8 =>
  pk (abin Try.prog .add 3 a1 (AV.int .i64 1)) S8 fun r9 =>
  pk (abin Try.prog .sub 3 a2 (AV.int .i64 1)) S8 fun r10 =>
  (aloop (s141_0 C run a0 a1 r10) C.N [r9] S8).bind fun
  | AOut.norm _ _ => (none)
  | AOut.exit x20 l20 S20 => (if x20 = 0 then ((aloop (s141_1 C run a0 a1 l20) C.N [r10] S20).bind fun
  | AOut.norm _ _ => (none)
  | AOut.exit x31 l31 S31 => (if x31 = 2 then (pk (bin2 Try.prog .gtr 3 ((gd l20 0)) ((gd l31 0))) S31 fun r32 =>
  ifA r32
  (pk (pindex 1 a0 a1 S31) S31 fun r33 =>
  pk (ld1 S31 r33) S31 fun r34 =>
  pk (pindex 1 a0 ((gd l31 0)) S31) S31 fun r35 =>
  pk (ld1 S31 r35) S31 fun r36 =>
  pk (pindex 1 a0 ((gd l31 0)) S31) S31 fun r37 =>
  pe (storeA 1 r37 r34 S31) fun r38 S38 =>
  pk (pindex 1 a0 a1 S38) S38 fun r39 =>
  pe (storeA 1 r39 r36 S38) fun r40 S40 =>
  some (AV.tup [(gd l31 0), AV.bool true], S40))
  (pk (pindex 1 a0 ((gd l31 0)) S31) S31 fun r41 =>
  pk (ld1 S31 r41) S31 fun r42 =>
  pk (pindex 1 a0 ((gd l20 0)) S31) S31 fun r43 =>
  pk (ld1 S31 r43) S31 fun r44 =>
  pk (pindex 1 a0 ((gd l20 0)) S31) S31 fun r45 =>
  pe (storeA 1 r45 r42 S31) fun r46 S46 =>
  pk (pindex 1 a0 ((gd l31 0)) S46) S46 fun r47 =>
  pe (storeA 1 r47 r44 S46) fun r48 S48 =>
  pk (abin Try.prog .add 3 ((gd l20 0)) (AV.int .i64 1)) S48 fun r49 =>
  pk (abin Try.prog .sub 3 ((gd l31 0)) (AV.int .i64 1)) S48 fun r50 =>
  (aloop (s141_4 C run a0 a1) C.N [r49, r50] S48).bind fun
  | AOut.norm _ _ => (none)
  | AOut.exit x85 l85 S85 => (if x85 = 4 then (pk (pindex 1 a0 a1 S85) S85 fun r86 =>
  pk (ld1 S85 r86) S85 fun r87 =>
  pk (pindex 1 a0 ((gd l85 1)) S85) S85 fun r88 =>
  pk (ld1 S85 r88) S85 fun r89 =>
  pk (pindex 1 a0 ((gd l85 1)) S85) S85 fun r90 =>
  pe (storeA 1 r90 r87 S85) fun r91 S91 =>
  pk (pindex 1 a0 a1 S91) S91 fun r92 =>
  pe (storeA 1 r92 r89 S91) fun r93 S93 =>
  some (AV.tup [(gd l85 1), AV.bool false], S93)) else (none))
  | AOut.ret l85 S85 => (some (AV.tup [AV.int .i64 0, AV.bool false], S85)))) else (none))
  | AOut.ret l31 S31 => (some (AV.tup [AV.int .i64 0, AV.bool false], S31))) else (none))
  | AOut.ret l20 S20 => (some (AV.tup [AV.int .i64 0, AV.bool false], S20))
theorem t141 (N d : Nat) (a0 a1 a2 a3 : AV) (S : St) : R N (d + 1) 141 [a0, a1, a2, a3] S = b141 (cfg N) (R N d) a0 a1 a2 a3 S := by unfold R; kernel_rfl
def s128_0 (C : Cfg) (run : RunT) (a0 : AV) (l : List AV) (S : St) : Option AOut :=
  pk (bin2 Try.prog .sub 3 ((gd l 1)) ((gd l 0))) S fun r1 =>
  pk (abin Try.prog .leq 3 r1 (AV.int .i64 12)) S fun r2 =>
  ifA r2
  (pe (callS run 133 [a0, (gd l 0), (gd l 1)] S) fun r3 S3 =>
  some (AOut.ret [(gd l 0), (gd l 1), (gd l 2), (gd l 3), (gd l 4)] S3))
  (pk (abin Try.prog .eql 3 ((gd l 2)) (AV.int .i64 0)) S fun r4 =>
  ifA r4
  (pe (callS run 134 [a0, (gd l 0), (gd l 1)] S) fun r5 S5 =>
  some (AOut.ret [(gd l 0), (gd l 1), (gd l 2), (gd l 3), (gd l 4)] S5))
  ((pk (aun .not ((gd l 3))) S fun r6 =>
  ifA r6
  (pe (callS run 135 [a0, (gd l 0), (gd l 1)] S) fun r7 S7 =>
  pk (abin Try.prog .sub 3 ((gd l 2)) (AV.int .i64 1)) S7 fun r8 =>
  some (AOut.norm [r8] S7))
  (some (AOut.norm [(gd l 2)] S))).bind fun
  | AOut.norm l9 S9 => (pq (call0 run 136 [a0, (gd l 0), (gd l 1)] S9) fun r10 =>
  pq (extA r10 0 S9) fun r11 =>
  pq (extA r10 1 S9) fun r12 =>
  (pk (abin Try.prog .eql 159 r12 (AV.int .i64 2)) S9 fun r13 =>
  ifA r13
  (pe (callS run 137 [a0, (gd l 0), (gd l 1)] S9) fun r14 S14 =>
  pk (abin Try.prog .sub 3 ((gd l 1)) (AV.int .i64 1)) S14 fun r15 =>
  pk (bin2 Try.prog .sub 3 r11 ((gd l 0))) S14 fun r16 =>
  pk (bin2 Try.prog .sub 3 r15 r16) S14 fun r17 =>
  some (AOut.norm [r17, AV.int .i64 1] S14))
  (some (AOut.norm [r11, r12] S9))).bind fun
  | AOut.norm l18 S18 => (((guardA ((gd l 3)) true
  (guardA ((gd l 4)) true
  (pk (abin Try.prog .eql 159 ((gd l18 1)) (AV.int .i64 1)) S18 fun r19 =>
  some (AOut.norm [r19] S18))
  (some (AOut.norm [AV.bool false] S18)))
  (some (AOut.norm [AV.bool false] S18))).bind fun
  | AOut.norm l20 S20 => (ifA ((gd l20 0))
  (pe (callS run 138 [a0, (gd l 0), (gd l 1)] S20) fun r21 S21 =>
  ifA r21
  (some (AOut.ret [] S21))
  (some (AOut.norm [] S21)))
  (some (AOut.norm [] S20)))
  | AOut.exit x20 l20 S20 => (some (AOut.exit x20 [] S20))
  | AOut.ret l20 S20 => (some (AOut.ret [] S20))).bind fun
  | AOut.norm l22 S22 => ((pk (abin Try.prog .gtr 3 ((gd l 0)) (AV.int .i64 0)) S22 fun r23 =>
  guardA r23 true
  (pk (abin Try.prog .sub 3 ((gd l 0)) (AV.int .i64 1)) S22 fun r24 =>
  pk (pindex 1 a0 r24 S22) S22 fun r25 =>
  pk (ld1 S22 r25) S22 fun r26 =>
  pk (pindex 1 a0 ((gd l18 0)) S22) S22 fun r27 =>
  pk (ld1 S22 r27) S22 fun r28 =>
  pq (call0 run 139 [r26, r28] S22) fun r29 =>
  pk (aun .not r29) S22 fun r30 =>
  ifA r30
  (pe (callS run 140 [a0, (gd l 0), (gd l 1), (gd l18 0)] S22) fun r31 S31 =>
  some (AOut.exit 1 [r31] S31))
  (some (AOut.norm [(gd l 0)] S22)))
  (some (AOut.norm [(gd l 0)] S22))).bind fun
  | AOut.norm l32 S32 => (pe (callS run 141 [a0, (gd l32 0), (gd l 1), (gd l18 0)] S32) fun r33 S33 =>
  pq (extA r33 0 S33) fun r34 =>
  pq (extA r33 1 S33) fun r35 =>
  pk (bin2 Try.prog .sub 3 r34 ((gd l32 0))) S33 fun r36 =>
  pk (bin2 Try.prog .sub 3 ((gd l 1)) r34) S33 fun r37 =>
  pk (abin Try.prog .quo 3 r1 (AV.int .i64 8)) S33 fun r38 =>
  pk (bin2 Try.prog .lss 3 r36 r37) S33 fun r39 =>
  ifA r39
  (pk (bin2 Try.prog .geq 3 r36 r38) S33 fun r40 =>
  pe (callS run 128 [a0, (gd l32 0), r34, (gd l9 0)] S33) fun r41 S41 =>
  pk (abin Try.prog .add 3 r34 (AV.int .i64 1)) S41 fun r42 =>
  some (AOut.norm [r42, (gd l 1), (gd l9 0), r40, r35] S41))
  (pk (bin2 Try.prog .geq 3 r37 r38) S33 fun r43 =>
  pk (abin Try.prog .add 3 r34 (AV.int .i64 1)) S33 fun r44 =>
  pe (callS run 128 [a0, r44, (gd l 1), (gd l9 0)] S33) fun r45 S45 =>
  some (AOut.norm [(gd l32 0), r34, (gd l9 0), r43, r35] S45)))
  | AOut.exit x32 l32 S32 => (if x32 = 1 then (some (AOut.norm [(gd l32 0), (gd l 1), (gd l9 0), (gd l 3), (gd l 4)] S32)) else (some (AOut.exit x32 [(gd l32 0), (gd l 1), (gd l9 0), (gd l 3), (gd l 4)] S32)))
  | AOut.ret l32 S32 => (some (AOut.ret [(gd l32 0), (gd l 1), (gd l9 0), (gd l 3), (gd l 4)] S32)))
  | AOut.exit x22 l22 S22 => (if x22 = 1 then (some (AOut.norm [(gd l 0), (gd l 1), (gd l9 0), (gd l 3), (gd l 4)] S22)) else (some (AOut.exit x22 [(gd l 0), (gd l 1), (gd l9 0), (gd l 3), (gd l 4)] S22)))
  | AOut.ret l22 S22 => (some (AOut.ret [(gd l 0), (gd l 1), (gd l9 0), (gd l 3), (gd l 4)] S22)))
  | AOut.exit x18 l18 S18 => (if x18 = 1 then (some (AOut.norm [(gd l 0), (gd l 1), (gd l9 0), (gd l 3), (gd l 4)] S18)) else (some (AOut.exit x18 [(gd l 0), (gd l 1), (gd l9 0), (gd l 3), (gd l 4)] S18)))
  | AOut.ret l18 S18 => (some (AOut.ret [(gd l 0), (gd l 1), (gd l9 0), (gd l 3), (gd l 4)] S18)))
  | AOut.exit x9 l9 S9 => (if x9 = 1 then (some (AOut.norm [(gd l 0), (gd l 1), (gd l9 0), (gd l 3), (gd l 4)] S9)) else (some (AOut.exit x9 [(gd l 0), (gd l 1), (gd l9 0), (gd l 3), (gd l 4)] S9)))
  | AOut.ret l9 S9 => (some (AOut.ret [(gd l 0), (gd l 1), (gd l9 0), (gd l 3), (gd l 4)] S9))))
def b128 (C : Cfg) (run : RunT) (a0 a1 a2 a3 : AV) (S : St) : OA :=
  (aloop (s128_0 C run a0) C.N [a1, a2, a3, AV.bool true, AV.bool true] S).bind fun
  | AOut.norm _ _ => (none)
  | AOut.exit x46 l46 S46 => (if x46 = 0 then (some (und, S46)) else (none))
  | AOut.ret l46 S46 => (some (und, S46))
theorem t128 (N d : Nat) (a0 a1 a2 a3 : AV) (S : St) : R N (d + 1) 128 [a0, a1, a2, a3] S = b128 (cfg N) (R N d) a0 a1 a2 a3 S := by unfold R; kernel_rfl
def b111 (C : Cfg) (run : RunT) (a0 : AV) (S : St) : OA :=
  pk (alen a0) S fun r1 =>
  pk (aconv Try.prog 3 154 r1 S) S fun r2 =>
  pq (call0 run 129 [r2] S) fun r3 =>
  pe (callS run 128 [a0, AV.int .i64 0, r1, r3] S) fun r4 S4 =>
  some (und, S4)
theorem t111 (N d : Nat) (a0 : AV) (S : St) : R N (d + 1) 111 [a0] S = b111 (cfg N) (R N d) a0 S := by unfold R; kernel_rfl
def s112_0 (C : Cfg) (run : RunT) (a0 : AV) (r11 : AV) (l12 : List AV) (S : St) : Option AOut :=
  pk (alen r11) S fun r13 =>
  pk (bin2 Try.prog .lss 3 ((gd l12 1)) r13) S fun r14 =>
  ifA r14
  ((pk (pindex 1 r11 ((gd l12 1)) S) S fun r15 =>
  pk (ld1 S r15) S fun r16 =>
  pk (abin Try.prog .sub 3 ((gd l12 1)) (AV.int .i64 1)) S fun r17 =>
  pk (pindex 1 r11 r17 S) S fun r18 =>
  pk (ld1 S r18) S fun r19 =>
  pk (bin2 Try.prog .neq 2 r16 r19) S fun r20 =>
  ifA r20
  (pk (pindex 1 r11 ((gd l12 1)) S) S fun r21 =>
  pk (ld1 S r21) S fun r22 =>
  pk (pindex 1 a0 ((gd l12 0)) S) S fun r23 =>
  pe (storeA 1 r23 r22 S) fun r24 S24 =>
  pk (abin Try.prog .add 3 ((gd l12 0)) (AV.int .i64 1)) S24 fun r25 =>
  some (AOut.norm [r25] S24))
  (some (AOut.norm [(gd l12 0)] S))).bind fun
  | AOut.norm l26 S26 => (pk (abin Try.prog .add 3 ((gd l12 1)) (AV.int .i64 1)) S26 fun r27 =>
  some (AOut.norm [(gd l26 0), r27] S26))
  | AOut.exit x26 l26 S26 => (some (AOut.exit x26 [(gd l26 0), (gd l12 1)] S26))
  | AOut.ret l26 S26 => (some (AOut.ret [(gd l26 0), (gd l12 1)] S26)))
  (some (AOut.exit 2 [(gd l12 0), (gd l12 1)] S))
def s112_1 (C : Cfg) (run : RunT) (a0 : AV) (l : List AV) (S : St) : Option AOut :=
  pk (alen a0) S fun r3 =>
  pk (bin2 Try.prog .lss 3 ((gd l 1)) r3) S fun r4 =>
  ifA r4
  (pk (pindex 1 a0 ((gd l 1)) S) S fun r5 =>
  pk (ld1 S r5) S fun r6 =>
  pk (abin Try.prog .sub 3 ((gd l 1)) (AV.int .i64 1)) S fun r7 =>
  pk (pindex 1 a0 r7 S) S fun r8 =>
  pk (ld1 S r8) S fun r9 =>
  pk (bin2 Try.prog .eql 2 r6 r9) S fun r10 =>
  ifA r10
  (pq (sliceA 1 a0 (some ((gd l 1))) none none S) fun r11 =>
  (aloop (s112_0 C run a0 r11) C.N [(gd l 1), AV.int .i64 1] S).bind fun
  | AOut.norm _ _ => (none)
  | AOut.exit x28 l28 S28 => (if x28 = 2 then (pq (sliceA 1 a0 (some ((gd l28 0))) none none S28) fun r29 =>
  pe (aclear Try.prog 24 r29 S28) fun r30 S30 =>
  pq (sliceA 1 a0 none (some ((gd l28 0))) none S30) fun r31 =>
  some (AOut.ret [r31, (gd l28 0)] S30)) else (if x28 = 1 then (pk (abin Try.prog .add 3 ((gd l28 0)) (AV.int .i64 1)) S28 fun r32 =>
  some (AOut.norm [(gd l 0), r32] S28)) else (some (AOut.exit x28 [(gd l 0), (gd l28 0)] S28))))
  | AOut.ret l28 S28 => (some (AOut.ret [(gd l 0), (gd l28 0)] S28)))
  (pk (abin Try.prog .add 3 ((gd l 1)) (AV.int .i64 1)) S fun r33 =>
  some (AOut.norm [(gd l 0), r33] S)))
  (some (AOut.exit 0 [(gd l 0), (gd l 1)] S))
def b112 (C : Cfg) (run : RunT) (a0 : AV) (S : St) : OA :=
  pk (alen a0) S fun r1 =>
  pk (abin Try.prog .lss 3 r1 (AV.int .i64 2)) S fun r2 =>
  ifA r2
  (some (a0, S))
  ((aloop (s112_1 C run a0) C.N [AV.rsl false true [], AV.int .i64 1] S).bind fun
  | AOut.norm _ _ => (none)
  | AOut.exit x34 l34 S34 => (if x34 = 0 then (some (a0, S34)) else (none))
  | AOut.ret l34 S34 => (some ((gd l34 0), S34)))
theorem t112 (N d : Nat) (a0 : AV) (S : St) : R N (d + 1) 112 [a0] S = b112 (cfg N) (R N d) a0 S := by unfold R; kernel_rfl
def s68_0 (C : Cfg) (run : RunT) (a0 : AV) (r1 : AV) (r3 : AV) (l : List AV) (S : St) : Option AOut :=
  pk (bin2 Try.prog .lss 3 ((gd l 1)) r3) S fun r4 =>
  ifA r4
  ((pk (pindex 4 a0 ((gd l 1)) S) S fun r5 =>
  pk (ldA S r5 4) S fun r6 =>
  pe (some (newBox S [AV.int .i64 0, AV.int .i64 0, AV.int .i64 0, AV.str ⟨#[]⟩])) fun r7 S7 =>
  pe (storeA 4 r7 r6 S7) fun r8 S8 =>
  pk (pfield r7 1 3) S8 fun r9 =>
  pk (ldA S8 r9 3) S8 fun r10 =>
  pk (ldA S8 r1 3) S8 fun r11 =>
  pk (bin2 Try.prog .eql 68 r10 r11) S8 fun r12 =>
  ifA r12
  (pk (pfield r7 0 1) S8 fun r13 =>
  pk (ld1 S8 r13) S8 fun r14 =>
  pe (abuildS Try.prog 24 1 [(0, r14)] S8) fun r15 S15 =>
  pe (appA 1 8 ((gd l 0)) r15 S15) fun r16 S16 =>
  some (AOut.norm [r16] S16))
  (some (AOut.norm [(gd l 0)] S8))).bind fun
  | AOut.norm l17 S17 => (pk (abin Try.prog .add 3 ((gd l 1)) (AV.int .i64 1)) S17 fun r18 =>
  some (AOut.norm [(gd l17 0), r18] S17))
  | AOut.exit x17 l17 S17 => (some (AOut.exit x17 [(gd l17 0), (gd l 1)] S17))
  | AOut.ret l17 S17 => (some (AOut.ret [(gd l17 0), (gd l 1)] S17)))
  (some (AOut.exit 0 [(gd l 0), (gd l 1)] S))
def b68 (C : Cfg) (run : RunT) (a0 a1 : AV) (S : St) : OA :=
  pe (boxA a1 S) fun r1 S1 =>
  pe (abuildS Try.prog 24 0 [] S1) fun r2 S2 =>
  pk (alen a0) S2 fun r3 =>
  (aloop (s68_0 C run a0 r1 r3) C.N [r2, AV.int .i64 0] S2).bind fun
  | AOut.norm _ _ => (none)
  | AOut.exit x19 l19 S19 => (if x19 = 0 then (pe (callS run 111 [(gd l19 0)] S19) fun r20 S20 =>
  pe (callS run 112 [(gd l19 0)] S20) fun r21 S21 =>
  some (r21, S21)) else (none))
  | AOut.ret l19 S19 => (some (AV.rsl false true [], S19))
theorem t68 (N d : Nat) (a0 a1 : AV) (S : St) : R N (d + 1) 68 [a0, a1] S = b68 (cfg N) (R N d) a0 a1 S := by unfold R; kernel_rfl
def b32 (C : Cfg) (run : RunT) (a0 a1 a2 : AV) (S : St) : OA :=
  pe (boxA a2 S) fun r1 S1 =>
  pe (some (newBox S1 [AV.int .i64 0, AV.rsl false true []])) fun r2 S2 =>
  pq (call0 run 67 [a0, a1] S2) fun r3 =>
  pk (abin Try.prog .neq 2 r3 (AV.int .i64 0)) S2 fun r4 =>
  ifA r4
  (pk (abuild Try.prog 64 [(0, r3)]) S2 fun r5 =>
  pe (storeA 2 r2 r5 S2) fun r6 S6 =>
  (ldA S6 r2 2).map (·, S6))
  (pk (ldA S2 r1 3) S2 fun r7 =>
  pe (call1 run 68 [a1, r7] S2) fun r8 S8 =>
  pk (abuild Try.prog 64 [(1, r8)]) S8 fun r9 =>
  pe (storeA 2 r2 r9 S8) fun r10 S10 =>
  (ldA S10 r2 2).map (·, S10))
theorem t32 (N d : Nat) (a0 a1 a2 : AV) (S : St) : R N (d + 1) 32 [a0, a1, a2] S = b32 (cfg N) (R N d) a0 a1 a2 S := by unfold R; kernel_rfl
def s23_0 (C : Cfg) (run : RunT) (a0 : AV) (a1 : AV) (l : List AV) (S : St) : Option AOut :=
  pk (alen a0) S fun r4 =>
  pk (bin2 Try.prog .lss 3 ((gd l 1)) r4) S fun r5 =>
  ifA r5
  (pk (pindex 1 a0 ((gd l 1)) S) S fun r6 =>
  pk (ld1 S r6) S fun r7 =>
  pk (pindex 1 a1 ((gd l 1)) S) S fun r8 =>
  pk (ld1 S r8) S fun r9 =>
  pk (bin2 Try.prog .neq 2 r7 r9) S fun r10 =>
  ifA r10
  (some (AOut.ret [AV.bool false, (gd l 1)] S))
  (pk (abin Try.prog .add 3 ((gd l 1)) (AV.int .i64 1)) S fun r11 =>
  some (AOut.norm [(gd l 0), r11] S)))
  (some (AOut.exit 0 [(gd l 0), (gd l 1)] S))
def b23 (C : Cfg) (run : RunT) (a0 a1 : AV) (S : St) : OA :=
  pk (alen a0) S fun r1 =>
  pk (alen a1) S fun r2 =>
  pk (bin2 Try.prog .neq 3 r1 r2) S fun r3 =>
  ifA r3
  (some (AV.bool false, S))
  ((aloop (s23_0 C run a0 a1) C.N [AV.bool false, AV.int .i64 0] S).bind fun
  | AOut.norm _ _ => (none)
  | AOut.exit x12 l12 S12 => (if x12 = 0 then (some (AV.bool true, S12)) else (none))
  | AOut.ret l12 S12 => (some ((gd l12 0), S12)))
theorem t23 (N d : Nat) (a0 a1 : AV) (S : St) : R N (d + 1) 23 [a0, a1] S = b23 (cfg N) (R N d) a0 a1 S := by unfold R; kernel_rfl
def b33 (C : Cfg) (run : RunT) (a0 a1 : AV) (S : St) : OA :=
  pe (boxA a0 S) fun r1 S1 =>
  pe (boxA a1 S1) fun r2 S2 =>
  pk (pfield r1 0 1) S2 fun r3 =>
  pk (ld1 S2 r3) S2 fun r4 =>
  pk (pfield r2 0 1) S2 fun r5 =>
  pk (ld1 S2 r5) S2 fun r6 =>
  pk (bin2 Try.prog .neq 2 r4 r6) S2 fun r7 =>
  ifA r7
  (some (AV.bool false, S2))
  (pk (pfield r1 1 1) S2 fun r8 =>
  pk (ld1 S2 r8) S2 fun r9 =>
  pk (pfield r2 1 1) S2 fun r10 =>
  pk (ld1 S2 r10) S2 fun r11 =>
  pq (call0 run 23 [r9, r11] S2) fun r12 =>
  pk (aun .not r12) S2 fun r13 =>
  ifA r13
  (some (AV.bool false, S2))
  (some (AV.bool true, S2)))
theorem t33 (N d : Nat) (a0 a1 : AV) (S : St) : R N (d + 1) 33 [a0, a1] S = b33 (cfg N) (R N d) a0 a1 S := by unfold R; kernel_rfl
def b113 (C : Cfg) (run : RunT) (a0 a1 : AV) (S : St) : OA :=
  pe (boxA a0 S) fun r1 S1 =>
  pe (boxA a1 S1) fun r2 S2 =>
  pk (pfield r1 0 1) S2 fun r3 =>
  pk (ld1 S2 r3) S2 fun r4 =>
  pk (pfield r2 0 1) S2 fun r5 =>
  pk (ld1 S2 r5) S2 fun r6 =>
  pk (bin2 Try.prog .neq 2 r4 r6) S2 fun r7 =>
  ifA r7
  (some (AV.bool false, S2))
  (pk (pfield r1 1 1) S2 fun r8 =>
  pk (ld1 S2 r8) S2 fun r9 =>
  pk (pfield r2 1 1) S2 fun r10 =>
  pk (ld1 S2 r10) S2 fun r11 =>
  pk (bin2 Try.prog .neq 2 r9 r11) S2 fun r12 =>
  ifA r12
  (some (AV.bool false, S2))
  (pk (pfield r1 2 1) S2 fun r13 =>
  pk (ld1 S2 r13) S2 fun r14 =>
  pk (pfield r2 2 1) S2 fun r15 =>
  pk (ld1 S2 r15) S2 fun r16 =>
  pk (bin2 Try.prog .neq 9 r14 r16) S2 fun r17 =>
  ifA r17
  (some (AV.bool false, S2))
  (some (AV.bool true, S2))))
theorem t113 (N d : Nat) (a0 a1 : AV) (S : St) : R N (d + 1) 113 [a0, a1] S = b113 (cfg N) (R N d) a0 a1 S := by unfold R; kernel_rfl
def b69 (C : Cfg) (run : RunT) (a0 a1 : AV) (S : St) : OA :=
  pe (boxA a0 S) fun r1 S1 =>
  pe (boxA a1 S1) fun r2 S2 =>
  pk (pfield r1 0 1) S2 fun r3 =>
  pk (ld1 S2 r3) S2 fun r4 =>
  pk (pfield r2 0 1) S2 fun r5 =>
  pk (ld1 S2 r5) S2 fun r6 =>
  pk (bin2 Try.prog .neq 2 r4 r6) S2 fun r7 =>
  ifA r7
  (some (AV.bool false, S2))
  (pk (pfield r1 1 3) S2 fun r8 =>
  pk (ldA S2 r8 3) S2 fun r9 =>
  pk (pfield r2 1 3) S2 fun r10 =>
  pk (ldA S2 r10 3) S2 fun r11 =>
  pq (call0 run 113 [r9, r11] S2) fun r12 =>
  pk (aun .not r12) S2 fun r13 =>
  ifA r13
  (some (AV.bool false, S2))
  (some (AV.bool true, S2)))
theorem t69 (N d : Nat) (a0 a1 : AV) (S : St) : R N (d + 1) 69 [a0, a1] S = b69 (cfg N) (R N d) a0 a1 S := by unfold R; kernel_rfl
def s34_0 (C : Cfg) (run : RunT) (a0 : AV) (a1 : AV) (l : List AV) (S : St) : Option AOut :=
  pk (alen a0) S fun r4 =>
  pk (bin2 Try.prog .lss 3 ((gd l 1)) r4) S fun r5 =>
  ifA r5
  (pk (pindex 4 a0 ((gd l 1)) S) S fun r6 =>
  pk (ldA S r6 4) S fun r7 =>
  pk (pindex 4 a1 ((gd l 1)) S) S fun r8 =>
  pk (ldA S r8 4) S fun r9 =>
  pq (call0 run 69 [r7, r9] S) fun r10 =>
  pk (aun .not r10) S fun r11 =>
  ifA r11
  (some (AOut.ret [AV.bool false, (gd l 1)] S))
  (pk (abin Try.prog .add 3 ((gd l 1)) (AV.int .i64 1)) S fun r12 =>
  some (AOut.norm [(gd l 0), r12] S)))
  (some (AOut.exit 0 [(gd l 0), (gd l 1)] S))
def b34 (C : Cfg) (run : RunT) (a0 a1 : AV) (S : St) : OA :=
  pk (alen a0) S fun r1 =>
  pk (alen a1) S fun r2 =>
  pk (bin2 Try.prog .neq 3 r1 r2) S fun r3 =>
  ifA r3
  (some (AV.bool false, S))
  ((aloop (s34_0 C run a0 a1) C.N [AV.bool false, AV.int .i64 0] S).bind fun
  | AOut.norm _ _ => (none)
  | AOut.exit x13 l13 S13 => (if x13 = 0 then (some (AV.bool true, S13)) else (none))
  | AOut.ret l13 S13 => (some ((gd l13 0), S13)))
theorem t34 (N d : Nat) (a0 a1 : AV) (S : St) : R N (d + 1) 34 [a0, a1] S = b34 (cfg N) (R N d) a0 a1 S := by unfold R; kernel_rfl
def s70_0 (C : Cfg) (run : RunT)  (l : List AV) (S : St) : Option AOut :=
  pk (abin Try.prog .gtr 3 ((gd l 0)) (AV.int .i64 0)) S fun r2 =>
  ifA r2
  (pk (abin Try.prog .rem 3 ((gd l 0)) (AV.int .i64 10)) S fun r3 =>
  pk (abin Try.prog .add 3 (AV.int .i64 48) r3) S fun r4 =>
  pk (aconv Try.prog 3 5 r4 S) S fun r5 =>
  pe (abuildS Try.prog 137 1 [(0, r5)] S) fun r6 S6 =>
  pk (aconv Try.prog 137 9 r6 S6) S6 fun r7 =>
  pk (bin2 Try.prog .add 9 r7 ((gd l 1))) S6 fun r8 =>
  pk (abin Try.prog .quo 3 ((gd l 0)) (AV.int .i64 10)) S6 fun r9 =>
  some (AOut.norm [r9, r8] S6))
  (some (AOut.exit 0 [(gd l 0), (gd l 1)] S))
def b70 (C : Cfg) (run : RunT) (a0 : AV) (S : St) : OA :=
  pk (abin Try.prog .leq 3 a0 (AV.int .i64 0)) S fun r1 =>
  ifA r1
  (some (AV.str ⟨#[109, 48]⟩, S))
  ((aloop (s70_0 C run) C.N [a0, AV.str ⟨#[]⟩] S).bind fun
  | AOut.norm _ _ => (none)
  | AOut.exit x10 l10 S10 => (if x10 = 0 then (pk (abin Try.prog .add 9 (AV.str ⟨#[109]⟩) ((gd l10 1))) S10 fun r11 =>
  some (r11, S10)) else (none))
  | AOut.ret l10 S10 => (some (AV.str ⟨#[]⟩, S10)))
theorem t70 (N d : Nat) (a0 : AV) (S : St) : R N (d + 1) 70 [a0] S = b70 (cfg N) (R N d) a0 S := by unfold R; kernel_rfl
def s35_0 (C : Cfg) (run : RunT) (a0 : AV) (l : List AV) (S : St) : Option AOut :=
  pk (alen a0) S fun r1 =>
  pk (bin2 Try.prog .lss 3 ((gd l 1)) r1) S fun r2 =>
  ifA r2
  (pk (pindex 4 a0 ((gd l 1)) S) S fun r3 =>
  pk (pfield r3 0 1) S fun r4 =>
  pe (storeA 1 r4 ((gd l 0)) S) fun r5 S5 =>
  pk (abin Try.prog .add 3 ((gd l 0)) (AV.int .i64 1)) S5 fun r6 =>
  pk (pindex 4 a0 ((gd l 1)) S5) S5 fun r7 =>
  pk (pfield r7 1 3) S5 fun r8 =>
  pk (pfield r8 0 1) S5 fun r9 =>
  pe (storeA 1 r9 r6 S5) fun r10 S10 =>
  pk (abin Try.prog .add 3 r6 (AV.int .i64 1)) S10 fun r11 =>
  pk (pindex 4 a0 ((gd l 1)) S10) S10 fun r12 =>
  pk (pfield r12 1 3) S10 fun r13 =>
  pk (pfield r13 1 1) S10 fun r14 =>
  pe (storeA 1 r14 r11 S10) fun r15 S15 =>
  pk (abin Try.prog .add 3 r11 (AV.int .i64 1)) S15 fun r16 =>
  pq (call0 run 70 [r16] S15) fun r17 =>
  pk (pindex 4 a0 ((gd l 1)) S15) S15 fun r18 =>
  pk (pfield r18 1 3) S15 fun r19 =>
  pk (pfield r19 2 1) S15 fun r20 =>
  pe (storeA 1 r20 r17 S15) fun r21 S21 =>
  pk (abin Try.prog .add 3 r16 (AV.int .i64 1)) S21 fun r22 =>
  pk (abin Try.prog .add 3 ((gd l 1)) (AV.int .i64 1)) S21 fun r23 =>
  some (AOut.norm [r22, r23] S21))
  (some (AOut.exit 0 [(gd l 0), (gd l 1)] S))
def b35 (C : Cfg) (run : RunT) (a0 a1 : AV) (S : St) : OA :=
  (aloop (s35_0 C run a0) C.N [a1, AV.int .i64 0] S).bind fun
  | AOut.norm _ _ => (none)
  | AOut.exit x24 l24 S24 => (if x24 = 0 then (some ((gd l24 0), S24)) else (none))
  | AOut.ret l24 S24 => (some (AV.int .i64 0, S24))
theorem t35 (N d : Nat) (a0 a1 : AV) (S : St) : R N (d + 1) 35 [a0, a1] S = b35 (cfg N) (R N d) a0 a1 S := by unfold R; kernel_rfl
def s24_0 (C : Cfg) (run : RunT) (a0 : AV) (l : List AV) (S : St) : Option AOut :=
  pk (alen a0) S fun r1 =>
  pk (bin2 Try.prog .lss 3 ((gd l 1)) r1) S fun r2 =>
  ifA r2
  (pk (pindex 1 a0 ((gd l 1)) S) S fun r3 =>
  pe (storeA 1 r3 ((gd l 0)) S) fun r4 S4 =>
  pk (abin Try.prog .add 3 ((gd l 0)) (AV.int .i64 1)) S4 fun r5 =>
  pk (abin Try.prog .add 3 ((gd l 1)) (AV.int .i64 1)) S4 fun r6 =>
  some (AOut.norm [r5, r6] S4))
  (some (AOut.exit 0 [(gd l 0), (gd l 1)] S))
def b24 (C : Cfg) (run : RunT) (a0 a1 : AV) (S : St) : OA :=
  (aloop (s24_0 C run a0) C.N [a1, AV.int .i64 0] S).bind fun
  | AOut.norm _ _ => (none)
  | AOut.exit x7 l7 S7 => (if x7 = 0 then (some ((gd l7 0), S7)) else (none))
  | AOut.ret l7 S7 => (some (AV.int .i64 0, S7))
theorem t24 (N d : Nat) (a0 a1 : AV) (S : St) : R N (d + 1) 24 [a0, a1] S = b24 (cfg N) (R N d) a0 a1 S := by unfold R; kernel_rfl
def b36 (C : Cfg) (run : RunT) (a0 a1 : AV) (S : St) : OA :=
  pe (boxA a0 S) fun r1 S1 =>
  pk (pfield r1 1 1) S1 fun r2 =>
  pk (ld1 S1 r2) S1 fun r3 =>
  pe (callS run 24 [r3, a1] S1) fun r4 S4 =>
  some (r4, S4)
theorem t36 (N d : Nat) (a0 a1 : AV) (S : St) : R N (d + 1) 36 [a0, a1] S = b36 (cfg N) (R N d) a0 a1 S := by unfold R; kernel_rfl
def s71_0 (C : Cfg) (run : RunT) (a0 : AV) (l : List AV) (S : St) : Option AOut :=
  pk (alen a0) S fun r1 =>
  pk (bin2 Try.prog .lss 3 ((gd l 2)) r1) S fun r2 =>
  ifA r2
  (pk (pindex 1 a0 ((gd l 2)) S) S fun r3 =>
  pk (ld1 S r3) S fun r4 =>
  pk (bin2 Try.prog .neq 2 r4 ((gd l 0))) S fun r5 =>
  ifA r5
  (some (AOut.ret [(gd l 0), AV.int .i64 (-1), (gd l 2)] S))
  (pk (abin Try.prog .add 3 ((gd l 0)) (AV.int .i64 1)) S fun r6 =>
  pk (abin Try.prog .add 3 ((gd l 2)) (AV.int .i64 1)) S fun r7 =>
  some (AOut.norm [r6, (gd l 1), r7] S)))
  (some (AOut.exit 0 [(gd l 0), (gd l 1), (gd l 2)] S))
def b71 (C : Cfg) (run : RunT) (a0 a1 : AV) (S : St) : OA :=
  (aloop (s71_0 C run a0) C.N [a1, AV.int .i64 0, AV.int .i64 0] S).bind fun
  | AOut.norm _ _ => (none)
  | AOut.exit x8 l8 S8 => (if x8 = 0 then (some ((gd l8 0), S8)) else (none))
  | AOut.ret l8 S8 => (some ((gd l8 1), S8))
theorem t71 (N d : Nat) (a0 a1 : AV) (S : St) : R N (d + 1) 71 [a0, a1] S = b71 (cfg N) (R N d) a0 a1 S := by unfold R; kernel_rfl
def b37 (C : Cfg) (run : RunT) (a0 a1 : AV) (S : St) : OA :=
  pe (boxA a0 S) fun r1 S1 =>
  pk (pfield r1 1 1) S1 fun r2 =>
  pk (ld1 S1 r2) S1 fun r3 =>
  pq (call0 run 71 [r3, a1] S1) fun r4 =>
  pk (abin Try.prog .lss 3 r4 (AV.int .i64 0)) S1 fun r5 =>
  ifA r5
  (some (AV.int .i64 (-1), S1))
  (some (r4, S1))
theorem t37 (N d : Nat) (a0 a1 : AV) (S : St) : R N (d + 1) 37 [a0, a1] S = b37 (cfg N) (R N d) a0 a1 S := by unfold R; kernel_rfl
def b5 (C : Cfg) (run : RunT) (a0 a1 a2 : AV) (S : St) : OA :=
  pe (boxA a2 S) fun r1 S1 =>
  pq (call0 run 27 [a1, AV.int .i64 1048576] S1) fun r2 =>
  pk (abin Try.prog .lss 3 r2 (AV.int .i64 0)) S1 fun r3 =>
  ifA r3
  (some (AV.bool true, S1))
  (pk (ldA S1 r1 3) S1 fun r4 =>
  pq (call0 run 28 [r4, r2] S1) fun r5 =>
  pk (abin Try.prog .lss 3 r5 (AV.int .i64 0)) S1 fun r6 =>
  ifA r6
  (some (AV.bool true, S1))
  (pe (some (newBox S1 [AV.int .i64 0, AV.rsl false true []])) fun r7 S7 =>
  pq (call0 run 30 [a1] S7) fun r8 =>
  pk (ldA S7 r1 3) S7 fun r9 =>
  pq (call0 run 31 [r9] S7) fun r10 =>
  pq (call0 run 29 [a0, r8, r10] S7) fun r11 =>
  pe (storeA 2 r7 r11 S7) fun r12 S12 =>
  pe (call1 run 30 [a1] S12) fun r13 S13 =>
  pk (ldA S13 r1 3) S13 fun r14 =>
  pq (call0 run 31 [r14] S13) fun r15 =>
  pe (call1 run 32 [a0, r13, r15] S13) fun r16 S16 =>
  pe (some (newBox S16 [AV.int .i64 0, AV.rsl false true []])) fun r17 S17 =>
  pe (storeA 2 r17 r16 S17) fun r18 S18 =>
  pk (ldA S18 r17 2) S18 fun r19 =>
  pk (ldA S18 r7 2) S18 fun r20 =>
  pq (call0 run 33 [r19, r20] S18) fun r21 =>
  pk (aun .not r21) S18 fun r22 =>
  ifA r22
  (some (AV.bool false, S18))
  (pe (call1 run 30 [a1] S18) fun r23 S23 =>
  pq (call0 run 34 [r13, r23] S23) fun r24 =>
  pk (aun .not r24) S23 fun r25 =>
  ifA r25
  (some (AV.bool false, S23))
  (pe (callS run 35 [r13, AV.int .i64 1] S23) fun r26 S26 =>
  (pk (abin Try.prog .lss 3 r26 (AV.int .i64 0)) S26 fun r27 =>
  guardA r27 false
  (pk (ldA S26 r17 2) S26 fun r28 =>
  pk (ldA S26 r7 2) S26 fun r29 =>
  pq (call0 run 33 [r28, r29] S26) fun r30 =>
  pk (aun .not r30) S26 fun r31 =>
  ifA r31
  (some (AOut.ret [AV.bool false] S26))
  (some (AOut.norm [AV.bool false] S26)))
  (some (AOut.ret [AV.bool false] S26))).bind fun
  | AOut.norm l32 S32 => (pk (ldA S32 r17 2) S32 fun r33 =>
  pe (callS run 36 [r33, AV.int .i64 1] S32) fun r34 S34 =>
  pk (ldA S34 r17 2) S34 fun r35 =>
  pq (call0 run 37 [r35, AV.int .i64 1] S34) fun r36 =>
  pk (abin Try.prog .lss 3 r36 (AV.int .i64 0)) S34 fun r37 =>
  ifA r37
  (some (AV.bool false, S34))
  (pk (bin2 Try.prog .neq 3 r36 r34) S34 fun r38 =>
  ifA r38
  (some (AV.bool false, S34))
  (pe (some (newBox S34 [AV.int .i64 0, AV.rsl false true []])) fun r39 S39 =>
  pq (call0 run 30 [a1] S39) fun r40 =>
  pk (ldA S39 r1 3) S39 fun r41 =>
  pq (call0 run 31 [r41] S39) fun r42 =>
  pq (call0 run 32 [a0, r40, r42] S39) fun r43 =>
  pe (storeA 2 r39 r43 S39) fun r44 S44 =>
  pk (ldA S44 r39 2) S44 fun r45 =>
  pk (ldA S44 r7 2) S44 fun r46 =>
  pq (call0 run 33 [r45, r46] S44) fun r47 =>
  pk (aun .not r47) S44 fun r48 =>
  ifA r48
  (some (AV.bool false, S44))
  (pk (ldA S44 r17 2) S44 fun r49 =>
  pq (call0 run 37 [r49, AV.int .i64 1] S44) fun r50 =>
  pk (abin Try.prog .lss 3 r50 (AV.int .i64 0)) S44 fun r51 =>
  ifA r51
  (some (AV.bool false, S44))
  (pk (bin2 Try.prog .neq 3 r50 r34) S44 fun r52 =>
  ifA r52
  (some (AV.bool false, S44))
  (some (AV.bool true, S44)))))))
  | AOut.exit x32 l32 S32 => (none)
  | AOut.ret l32 S32 => (some ((gd l32 0), S32))))))
theorem t5 (N d : Nat) (a0 a1 a2 : AV) (S : St) : R N (d + 1) 5 [a0, a1, a2] S = b5 (cfg N) (R N d) a0 a1 a2 S := by unfold R; kernel_rfl
end
end Go.Proofs.Ytodfmofjncmdfaa
