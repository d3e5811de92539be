/- What the evaluator makes of the functions; what they compute. -/
import Derived.Test.YtionojjamahhpaaProg
import Derived.KernelRfl
import Derived.Test.YtionojjamahhpaaRg2
namespace Go.Proofs.Ytionojjamahhpaa
open Go Go.Rf
set_option linter.unusedVariables false
def cutT : List (Nat × List Nat) := [(810005006, [1, 4, 5]), (1010003004, [4]), (1210004005, [4, 5]), (8400001001, [2]), (4600008009, [4]), (4610006007, [4, 5]), (6800005011, [7]), (6800009009, [9]), (6810003004, [7, 8]), (6810007008, [9, 10]), (2610005006, [6]), (8610002006, [4, 8]), (5200001001, [2]), (14400001001, [4]), (13800004004, [30]), (13810001002, [6]), (13810004005, [7]), (15000003004, [9]), (15010001007, [8]), (13910004005, [9]), (13910008009, [10]), (14700001003, [0, 2]), (14700004006, [0, 2]), (14800001003, [0, 2]), (14800004006, [0, 2]), (14800007009, [0, 2]), (14000007010, []), (14000008009, [10]), (14010005006, [9]), (14100006011, [11]), (14100007010, [10, 11, 12]), (14210002005, [6, 7]), (14300005005, [32]), (14300005021, [6, 7]), (14300012015, []), (14310003004, [6, 7, 8]), (14310005006, [7]), (14310014015, [9]), (14310020021, [10]), (14500003003, [43]), (14500005005, [59]), (14510003004, [9]), (14510003010, [9, 10]), (14510005006, [10]), (14600003003, [43]), (14600005005, [60]), (14600013013, [112]), (14600015015, [129]), (14610003004, [10]), (14610005006, [11]), (14610013014, [10]), (14610013020, [10, 11]), (14610015016, [11]), (12900007009, [3]), (12900011014, [11, 12]), (12900015015, [68]), (12900015016, []), (12900017019, [1]), (12910002030, [1, 2, 3, 8, 9]), (11100011013, [3]), (11110004005, [2, 3]), (11110009010, [3, 5]), (6900004006, [5]), (6910003007, [5, 11]), (2710005009, [17])]
def mdT : List (Nat × Nat) := [(690110, 2), (690111, 2), (1100129, 2), (1290129, 2), (1290138, 2), (1290139, 2), (1290140, 2), (1290142, 2), (1290143, 2), (1290145, 2), (1290146, 2), (1390150, 2), (1400152, 2), (1410153, 2), (1410154, 2), (1530154, 2), (1540157, 2)]
@[irreducible] def NN : Nat := maxLen + 1
noncomputable def cfg (N : Nat) : Cfg := { P := Try.prog, N := N, md := fun f g => lookM mdT (f * 10000 + g), cut := fun f k => lookT cutT (f * 100000000 + k), ext := fun _ => none }
@[irreducible] noncomputable def R (N d : Nat) : FuncId → List AV → St → Option (AV × St) := arun (cfg N) d
/- laws.szReply -/
noncomputable def b37 (C : Cfg) (run : FuncId → List AV → St → Option (AV × St)) (a0 a1 : AV) (S : St) : Option (AV × St) :=
  pe (boxA a0 S) fun r1 S1 =>
  pk (pfield r1 2 1) S1 fun r2 =>
  pk (ld1 S1 r2) S1 fun r3 =>
  pk (slen r3) S1 fun r4 =>
  pk (bin2 Try.prog .sub 3 a1 r4) S1 fun r5 =>
  pk (abin Try.prog .lss 3 r5 (AV.int .i64 0)) S1 fun r6 =>
  ifA r6
  (some (AV.int .i64 (-1), S1))
  (some (r5, S1))
theorem t37 (N d : Nat) (a0 a1 : AV) (S : St) : R N (d + 1) 37 [a0, a1] S = b37 (cfg N) (R N d) a0 a1 S := by unfold R; kernel_rfl
/- laws.szVote -/
noncomputable def b45 (C : Cfg) (run : FuncId → List AV → St → Option (AV × St)) (a0 a1 : AV) (S : St) : Option (AV × St) :=
  pe (boxA a0 S) fun r1 S1 =>
  pk (pfield r1 1 3) S1 fun r2 =>
  pk (ldA S1 r2 3) S1 fun r3 =>
  pq (call0 run 37 [r3, a1] S1) fun r4 =>
  pk (abin Try.prog .lss 3 r4 (AV.int .i64 0)) S1 fun r5 =>
  ifA r5
  (some (AV.int .i64 (-1), S1))
  (some (r4, S1))
theorem t45 (N d : Nat) (a0 a1 : AV) (S : St) : R N (d + 1) 45 [a0, a1] S = b45 (cfg N) (R N d) a0 a1 S := by unfold R; kernel_rfl
/- laws.szVoteS -/
noncomputable def s8_0 (C : Cfg) (run : FuncId → List AV → St → Option (AV × St)) (a0 : AV) (l : List AV) (S : St) : Option AOut :=
  pk (alen a0) S fun r4 =>
  pk (bin2 Try.prog .lss 3 ((l.getD 2 .non)) r4) S fun r5 =>
  ifA r5
  (pk (pindex 4 a0 ((l.getD 2 .non)) S) S fun r6 =>
  pk (ldA S r6 4) S fun r7 =>
  pq (call0 run 45 [r7, (l.getD 0 .non)] S) fun r8 =>
  pk (abin Try.prog .lss 3 r8 (AV.int .i64 0)) S fun r9 =>
  ifA r9
  (some (AOut.ret [r8, AV.int .i64 (-1), (l.getD 2 .non)] S))
  (pk (abin Try.prog .add 3 ((l.getD 2 .non)) (AV.int .i64 1)) S fun r10 =>
  some (AOut.norm [r8, (l.getD 1 .non), r10] S)))
  (some (AOut.exit 0 [(l.getD 0 .non), (l.getD 1 .non), (l.getD 2 .non)] S))
noncomputable def b8 (C : Cfg) (run : FuncId → List AV → St → Option (AV × St)) (a0 a1 : AV) (S : St) : Option (AV × St) :=
  pk (alen a0) S fun r1 =>
  pk (bin2 Try.prog .sub 3 a1 r1) S fun r2 =>
  pk (abin Try.prog .lss 3 r2 (AV.int .i64 0)) S fun r3 =>
  ifA r3
  (some (AV.int .i64 (-1), S))
  ((aloop (s8_0 C run a0) C.N [r2, AV.int .i64 0, AV.int .i64 0] S).bind fun
  | AOut.norm _ _ => (none)
  | AOut.exit x11 l11 S11 => (if x11 = 0 then (some ((l11.getD 0 .non), S11)) else (none))
  | AOut.ret l11 S11 => (some ((l11.getD 1 .non), S11)))
theorem t8 (N d : Nat) (a0 a1 : AV) (S : St) : R N (d + 1) 8 [a0, a1] S = b8 (cfg N) (R N d) a0 a1 S := by unfold R; kernel_rfl
/- laws.toReply -/
noncomputable def b39 (C : Cfg) (run : FuncId → List AV → St → Option (AV × St)) (a0 : AV) (S : St) : Option (AV × St) :=
  pe (boxA a0 S) fun r1 S1 =>
  pe (some (newBox S1 [AV.int .i64 0, AV.int .i64 0, AV.str ⟨#[]⟩])) fun r2 S2 =>
  pe (some (newBox S2 [AV.int .i64 0, AV.int .i64 0, AV.str ⟨#[]⟩])) fun r3 S3 =>
  pk (pfield r1 0 1) S3 fun r4 =>
  pk (ld1 S3 r4) S3 fun r5 =>
  pk (pfield r3 0 1) S3 fun r6 =>
  pe (storeA 1 r6 r5 S3) fun r7 S7 =>
  pk (pfield r1 1 1) S7 fun r8 =>
  pk (ld1 S7 r8) S7 fun r9 =>
  pk (pfield r3 1 1) S7 fun r10 =>
  pe (storeA 1 r10 r9 S7) fun r11 S11 =>
  pk (pfield r1 2 1) S11 fun r12 =>
  pk (ld1 S11 r12) S11 fun r13 =>
  pk (pfield r3 2 1) S11 fun r14 =>
  pe (storeA 1 r14 r13 S11) fun r15 S15 =>
  pk (ldA S15 r3 3) S15 fun r16 =>
  pe (storeA 3 r2 r16 S15) fun r17 S17 =>
  (ldA S17 r2 3).map (·, S17)
theorem t39 (N d : Nat) (a0 : AV) (S : St) : R N (d + 1) 39 [a0] S = b39 (cfg N) (R N d) a0 S := by unfold R; kernel_rfl
/- laws.toVote -/
noncomputable def b47 (C : Cfg) (run : FuncId → List AV → St → Option (AV × St)) (a0 : AV) (S : St) : Option (AV × St) :=
  pe (boxA a0 S) fun r1 S1 =>
  pe (some (newBox S1 [AV.int .i64 0, AV.int .i64 0, AV.int .i64 0, AV.str ⟨#[]⟩])) fun r2 S2 =>
  pe (some (newBox S2 [AV.int .i64 0, AV.int .i64 0, AV.int .i64 0, AV.str ⟨#[]⟩])) fun r3 S3 =>
  pk (pfield r1 0 1) S3 fun r4 =>
  pk (ld1 S3 r4) S3 fun r5 =>
  pk (pfield r3 0 1) S3 fun r6 =>
  pe (storeA 1 r6 r5 S3) fun r7 S7 =>
  pk (pfield r1 1 3) S7 fun r8 =>
  pk (ldA S7 r8 3) S7 fun r9 =>
  pq (call0 run 39 [r9] S7) fun r10 =>
  pk (pfield r3 1 3) S7 fun r11 =>
  pe (storeA 3 r11 r10 S7) fun r12 S12 =>
  pk (ldA S12 r3 4) S12 fun r13 =>
  pe (storeA 4 r2 r13 S12) fun r14 S14 =>
  (ldA S14 r2 4).map (·, S14)
theorem t47 (N d : Nat) (a0 : AV) (S : St) : R N (d + 1) 47 [a0] S = b47 (cfg N) (R N d) a0 S := by unfold R; kernel_rfl
/- laws.toVoteS -/
noncomputable def s10_0 (C : Cfg) (run : FuncId → List AV → St → Option (AV × St)) (a0 : AV) (r2 : AV) (l : List AV) (S : St) : Option AOut :=
  pk (alen a0) S fun r3 =>
  pk (bin2 Try.prog .lss 3 ((l.getD 0 .non)) r3) S fun r4 =>
  ifA r4
  (pk (pindex 4 a0 ((l.getD 0 .non)) S) S fun r5 =>
  pk (ldA S r5 4) S fun r6 =>
  pq (call0 run 47 [r6] S) fun r7 =>
  pk (pindex 4 r2 ((l.getD 0 .non)) S) S fun r8 =>
  pe (storeA 4 r8 r7 S) fun r9 S9 =>
  pk (abin Try.prog .add 3 ((l.getD 0 .non)) (AV.int .i64 1)) S9 fun r10 =>
  some (AOut.norm [r10] S9))
  (some (AOut.exit 0 [(l.getD 0 .non)] S))
noncomputable def b10 (C : Cfg) (run : FuncId → List AV → St → Option (AV × St)) (a0 : AV) (S : St) : Option (AV × St) :=
  pk (alen a0) S fun r1 =>
  pe (amake Try.prog 25 r1 r1 S) fun r2 S2 =>
  (aloop (s10_0 C run a0 r2) C.N [AV.int .i64 0] S2).bind fun
  | AOut.norm _ _ => (none)
  | AOut.exit x11 l11 S11 => (if x11 = 0 then (some (r2, S11)) else (none))
  | AOut.ret l11 S11 => (some (AV.rsl false true [], S11))
theorem t10 (N d : Nat) (a0 : AV) (S : St) : R N (d + 1) 10 [a0] S = b10 (cfg N) (R N d) a0 S := by unfold R; kernel_rfl
/- laws.eqReply -/
noncomputable def b70 (C : Cfg) (run : FuncId → List AV → St → Option (AV × St)) (a0 a1 : AV) (S : St) : Option (AV × St) :=
  pe (boxA a0 S) fun r1 S1 =>
  pe (boxA a1 S1) fun r2 S2 =>
  pk (pfield r1 0 1) S2 fun r3 =>
  pk (ld1 S2 r3) S2 fun r4 =>
  pk (pfield r2 0 1) S2 fun r5 =>
  pk (ld1 S2 r5) S2 fun r6 =>
  pk (bin2 Try.prog .neq 2 r4 r6) S2 fun r7 =>
  ifA r7
  (some (AV.bool false, S2))
  (pk (pfield r1 1 1) S2 fun r8 =>
  pk (ld1 S2 r8) S2 fun r9 =>
  pk (pfield r2 1 1) S2 fun r10 =>
  pk (ld1 S2 r10) S2 fun r11 =>
  pk (bin2 Try.prog .neq 2 r9 r11) S2 fun r12 =>
  ifA r12
  (some (AV.bool false, S2))
  (pk (pfield r1 2 1) S2 fun r13 =>
  pk (ld1 S2 r13) S2 fun r14 =>
  pk (pfield r2 2 1) S2 fun r15 =>
  pk (ld1 S2 r15) S2 fun r16 =>
  pk (bin2 Try.prog .neq 9 r14 r16) S2 fun r17 =>
  ifA r17
  (some (AV.bool false, S2))
  (some (AV.bool true, S2))))
theorem t70 (N d : Nat) (a0 a1 : AV) (S : St) : R N (d + 1) 70 [a0, a1] S = b70 (cfg N) (R N d) a0 a1 S := by unfold R; kernel_rfl
/- laws.eqVote -/
noncomputable def b53 (C : Cfg) (run : FuncId → List AV → St → Option (AV × St)) (a0 a1 : AV) (S : St) : Option (AV × St) :=
  pe (boxA a0 S) fun r1 S1 =>
  pe (boxA a1 S1) fun r2 S2 =>
  pk (pfield r1 0 1) S2 fun r3 =>
  pk (ld1 S2 r3) S2 fun r4 =>
  pk (pfield r2 0 1) S2 fun r5 =>
  pk (ld1 S2 r5) S2 fun r6 =>
  pk (bin2 Try.prog .neq 2 r4 r6) S2 fun r7 =>
  ifA r7
  (some (AV.bool false, S2))
  (pk (pfield r1 1 3) S2 fun r8 =>
  pk (ldA S2 r8 3) S2 fun r9 =>
  pk (pfield r2 1 3) S2 fun r10 =>
  pk (ldA S2 r10 3) S2 fun r11 =>
  pq (call0 run 70 [r9, r11] S2) fun r12 =>
  pk (aun .not r12) S2 fun r13 =>
  ifA r13
  (some (AV.bool false, S2))
  (some (AV.bool true, S2)))
theorem t53 (N d : Nat) (a0 a1 : AV) (S : St) : R N (d + 1) 53 [a0, a1] S = b53 (cfg N) (R N d) a0 a1 S := by unfold R; kernel_rfl
/- laws.eqVoteS -/
noncomputable def s12_0 (C : Cfg) (run : FuncId → List AV → St → Option (AV × St)) (a0 : AV) (a1 : AV) (l : List AV) (S : St) : Option AOut :=
  pk (alen a0) S fun r4 =>
  pk (bin2 Try.prog .lss 3 ((l.getD 1 .non)) r4) S fun r5 =>
  ifA r5
  (pk (pindex 4 a0 ((l.getD 1 .non)) S) S fun r6 =>
  pk (ldA S r6 4) S fun r7 =>
  pk (pindex 4 a1 ((l.getD 1 .non)) S) S fun r8 =>
  pk (ldA S r8 4) S fun r9 =>
  pq (call0 run 53 [r7, r9] S) fun r10 =>
  pk (aun .not r10) S fun r11 =>
  ifA r11
  (some (AOut.ret [AV.bool false, (l.getD 1 .non)] S))
  (pk (abin Try.prog .add 3 ((l.getD 1 .non)) (AV.int .i64 1)) S fun r12 =>
  some (AOut.norm [(l.getD 0 .non), r12] S)))
  (some (AOut.exit 0 [(l.getD 0 .non), (l.getD 1 .non)] S))
noncomputable def b12 (C : Cfg) (run : FuncId → List AV → St → Option (AV × St)) (a0 a1 : AV) (S : St) : Option (AV × St) :=
  pk (alen a0) S fun r1 =>
  pk (alen a1) S fun r2 =>
  pk (bin2 Try.prog .neq 3 r1 r2) S fun r3 =>
  ifA r3
  (some (AV.bool false, S))
  ((aloop (s12_0 C run a0 a1) C.N [AV.bool false, AV.int .i64 0] S).bind fun
  | AOut.norm _ _ => (none)
  | AOut.exit x13 l13 S13 => (if x13 = 0 then (some (AV.bool true, S13)) else (none))
  | AOut.ret l13 S13 => (some ((l13.getD 0 .non), S13)))
theorem t12 (N d : Nat) (a0 a1 : AV) (S : St) : R N (d + 1) 12 [a0, a1] S = b12 (cfg N) (R N d) a0 a1 S := by unfold R; kernel_rfl
/- spec.l1In -/
noncomputable def b90 (C : Cfg) (run : FuncId → List AV → St → Option (AV × St)) (a0 a1 a2 : AV) (S : St) : Option (AV × St) :=
  pk (bin2 Try.prog .geq 2 a0 a1) S fun r1 =>
  guardA r1 true
  (pk (bin2 Try.prog .leq 2 a0 a2) S fun r2 =>
  some (r2, S))
  (some (AV.bool false, S))
theorem t90 (N d : Nat) (a0 a1 a2 : AV) (S : St) : R N (d + 1) 90 [a0, a1, a2] S = b90 (cfg N) (R N d) a0 a1 a2 S := by unfold R; kernel_rfl
/- spec.l8F -/
noncomputable def b71 (C : Cfg) (run : FuncId → List AV → St → Option (AV × St)) (a0 : AV) (S : St) : Option (AV × St) :=
  pq (call0 run 90 [a0, AV.int .i64 1, AV.int .i64 2] S) fun r1 =>
  some (r1, S)
theorem t71 (N d : Nat) (a0 : AV) (S : St) : R N (d + 1) 71 [a0] S = b71 (cfg N) (R N d) a0 S := by unfold R; kernel_rfl
/- spec.l8Id -/
noncomputable def b83 (C : Cfg) (run : FuncId → List AV → St → Option (AV × St)) (a0 a1 : AV) (S : St) : Option (AV × St) :=
  pk (abin Try.prog .mul 2 (AV.int .i64 3) a0) S fun r1 =>
  pk (abin Try.prog .add 2 r1 (AV.int .i64 1)) S fun r2 =>
  pq (call0 run 90 [a1, AV.int .i64 1, r2] S) fun r3 =>
  some (r3, S)
theorem t83 (N d : Nat) (a0 a1 : AV) (S : St) : R N (d + 1) 83 [a0, a1] S = b83 (cfg N) (R N d) a0 a1 S := by unfold R; kernel_rfl
/- spec.l6Reply -/
noncomputable def b84 (C : Cfg) (run : FuncId → List AV → St → Option (AV × St)) (a0 : AV) (S : St) : Option (AV × St) :=
  (pq (nilA a0 S) fun r1 =>
  pk (pfield r1 0 1) S fun r2 =>
  pk (ld1 S r2) S fun r3 =>
  pq (call0 run 90 [r3, AV.int .i64 0, AV.int .i64 10] S) fun r4 =>
  guardA r4 true
  (pq (nilA a0 S) fun r5 =>
  pk (pfield r5 1 1) S fun r6 =>
  pk (ld1 S r6) S fun r7 =>
  pq (call0 run 90 [r7, AV.int .i64 (-1), AV.int .i64 9999] S) fun r8 =>
  guardA r8 true
  (pq (nilA a0 S) fun r9 =>
  pk (pfield r9 2 1) S fun r10 =>
  pk (ld1 S r10) S fun r11 =>
  pk (slen r11) S fun r12 =>
  pk (abin Try.prog .leq 3 r12 (AV.int .i64 24)) S fun r13 =>
  some (AOut.norm [r13] S))
  (some (AOut.norm [AV.bool false] S)))
  (some (AOut.norm [AV.bool false] S))).bind fun
  | AOut.norm l14 S14 => (some ((l14.getD 0 .non), S14))
  | AOut.exit x14 l14 S14 => (none)
  | AOut.ret l14 S14 => (some ((l14.getD 0 .non), S14))
theorem t84 (N d : Nat) (a0 : AV) (S : St) : R N (d + 1) 84 [a0] S = b84 (cfg N) (R N d) a0 S := by unfold R; kernel_rfl
/- spec.l14Fault -/
noncomputable def s46_0 (C : Cfg) (run : FuncId → List AV → St → Option (AV × St)) (a0 : AV) (a1 : AV) (l : List AV) (S : St) : Option AOut :=
  pk (alen a1) S fun r5 =>
  pk (bin2 Try.prog .lss 3 ((l.getD 1 .non)) r5) S fun r6 =>
  ifA r6
  ((pk (pindex 4 a1 ((l.getD 1 .non)) S) S fun r7 =>
  pk (pfield r7 0 1) S fun r8 =>
  pk (ld1 S r8) S fun r9 =>
  pq (call0 run 83 [a0, r9] S) fun r10 =>
  pk (aun .not r10) S fun r11 =>
  guardA r11 false
  (pk (pindex 4 a1 ((l.getD 1 .non)) S) S fun r12 =>
  pk (pfield r12 1 3) S fun r13 =>
  pq (call0 run 84 [r13] S) fun r14 =>
  pk (aun .not r14) S fun r15 =>
  ifA r15
  (some (AOut.ret [AV.int .i64 3] S))
  (some (AOut.norm [(l.getD 0 .non)] S)))
  (some (AOut.ret [AV.int .i64 3] S))).bind fun
  | AOut.norm l16 S16 => (pk (abin Try.prog .add 3 ((l.getD 1 .non)) (AV.int .i64 1)) S16 fun r17 =>
  some (AOut.norm [(l16.getD 0 .non), r17] S16))
  | AOut.exit x16 l16 S16 => (some (AOut.exit x16 [(l16.getD 0 .non), (l.getD 1 .non)] S16))
  | AOut.ret l16 S16 => (some (AOut.ret [(l16.getD 0 .non), (l.getD 1 .non)] S16)))
  (some (AOut.exit 0 [(l.getD 0 .non), (l.getD 1 .non)] S))
noncomputable def b46 (C : Cfg) (run : FuncId → List AV → St → Option (AV × St)) (a0 a1 : AV) (S : St) : Option (AV × St) :=
  pq (call0 run 71 [a0] S) fun r1 =>
  pk (aun .not r1) S fun r2 =>
  ifA r2
  (some (AV.int .i64 3, S))
  (pk (alen a1) S fun r3 =>
  pk (abin Try.prog .gtr 3 r3 (AV.int .i64 40)) S fun r4 =>
  ifA r4
  (some (AV.int .i64 2, S))
  ((aloop (s46_0 C run a0 a1) C.N [AV.int .i64 0, AV.int .i64 0] S).bind fun
  | AOut.norm _ _ => (none)
  | AOut.exit x18 l18 S18 => (if x18 = 0 then (some (AV.int .i64 0, S18)) else (none))
  | AOut.ret l18 S18 => (some ((l18.getD 0 .non), S18))))
theorem t46 (N d : Nat) (a0 a1 : AV) (S : St) : R N (d + 1) 46 [a0, a1] S = b46 (cfg N) (R N d) a0 a1 S := by unfold R; kernel_rfl
/- spec.l14Voters -/
noncomputable def s68_0 (C : Cfg) (run : FuncId → List AV → St → Option (AV × St)) (a1 : AV) (l : List AV) (r1 : AV) (l6 : List AV) (S : St) : Option AOut :=
  pk (alen a1) S fun r7 =>
  pk (bin2 Try.prog .lss 3 ((l6.getD 1 .non)) r7) S fun r8 =>
  ifA r8
  ((guardA ((l6.getD 0 .non)) false
  (pk (pindex 4 a1 ((l6.getD 1 .non)) S) S fun r9 =>
  pk (pfield r9 0 1) S fun r10 =>
  pk (ld1 S r10) S fun r11 =>
  pk (bin2 Try.prog .eql 2 r11 ((l.getD 1 .non))) S fun r12 =>
  guardA r12 true
  (pk (pindex 4 a1 ((l6.getD 1 .non)) S) S fun r13 =>
  pk (pfield r13 1 3) S fun r14 =>
  pk (ldA S r14 3) S fun r15 =>
  pk (ldA S r1 3) S fun r16 =>
  pk (bin2 Try.prog .eql 53 r15 r16) S fun r17 =>
  some (AOut.norm [r17] S))
  (some (AOut.norm [AV.bool false] S)))
  (some (AOut.norm [AV.bool true] S))).bind fun
  | AOut.norm l18 S18 => (pk (abin Try.prog .add 3 ((l6.getD 1 .non)) (AV.int .i64 1)) S18 fun r19 =>
  some (AOut.norm [(l18.getD 0 .non), r19] S18))
  | AOut.exit x18 l18 S18 => (some (AOut.exit x18 [(l18.getD 0 .non), (l6.getD 1 .non)] S18))
  | AOut.ret l18 S18 => (some (AOut.ret [(l18.getD 0 .non), (l6.getD 1 .non)] S18)))
  (some (AOut.exit 2 [(l6.getD 0 .non), (l6.getD 1 .non)] S))
noncomputable def s68_1 (C : Cfg) (run : FuncId → List AV → St → Option (AV × St)) (a0 : AV) (a1 : AV) (r1 : AV) (l : List AV) (S : St) : Option AOut :=
  pk (abin Try.prog .mul 2 (AV.int .i64 3) a0) S fun r3 =>
  pk (abin Try.prog .add 2 r3 (AV.int .i64 1)) S fun r4 =>
  pk (bin2 Try.prog .leq 2 ((l.getD 1 .non)) r4) S fun r5 =>
  ifA r5
  (((aloop (s68_0 C run a1 l r1) C.N [AV.bool false, AV.int .i64 0] S).bind fun
  | AOut.norm _ _ => (none)
  | AOut.exit x20 l20 S20 => (if x20 = 2 then (ifA ((l20.getD 0 .non))
  (pe (abuildS Try.prog 31 1 [(0, (l.getD 1 .non))] S20) fun r21 S21 =>
  pe (appA 1 8 ((l.getD 0 .non)) r21 S21) fun r22 S22 =>
  some (AOut.norm [r22] S22))
  (some (AOut.norm [(l.getD 0 .non)] S20))) else (if x20 = 1 then (some (AOut.norm [(l.getD 0 .non)] S20)) else (some (AOut.exit x20 [(l.getD 0 .non)] S20))))
  | AOut.ret l20 S20 => (some (AOut.ret [(l.getD 0 .non)] S20))).bind fun
  | AOut.norm l23 S23 => (pk (abin Try.prog .add 2 ((l.getD 1 .non)) (AV.int .i64 1)) S23 fun r24 =>
  some (AOut.norm [(l23.getD 0 .non), r24] S23))
  | AOut.exit x23 l23 S23 => (some (AOut.exit x23 [(l23.getD 0 .non), (l.getD 1 .non)] S23))
  | AOut.ret l23 S23 => (some (AOut.ret [(l23.getD 0 .non), (l.getD 1 .non)] S23)))
  (some (AOut.exit 0 [(l.getD 0 .non), (l.getD 1 .non)] S))
noncomputable def b68 (C : Cfg) (run : FuncId → List AV → St → Option (AV × St)) (a0 a1 a2 : AV) (S : St) : Option (AV × St) :=
  pe (boxA a2 S) fun r1 S1 =>
  pe (abuildS Try.prog 31 0 [] S1) fun r2 S2 =>
  (aloop (s68_1 C run a0 a1 r1) C.N [r2, AV.int .i64 1] S2).bind fun
  | AOut.norm _ _ => (none)
  | AOut.exit x25 l25 S25 => (if x25 = 0 then (some ((l25.getD 0 .non), S25)) else (none))
  | AOut.ret l25 S25 => (some (AV.rsl false true [], S25))
theorem t68 (N d : Nat) (a0 a1 a2 : AV) (S : St) : R N (d + 1) 68 [a0, a1, a2] S = b68 (cfg N) (R N d) a0 a1 a2 S := by unfold R; kernel_rfl
/- spec.AcceptOf -/
noncomputable def s26_0 (C : Cfg) (run : FuncId → List AV → St → Option (AV × St)) (a0 : AV) (a1 : AV) (r1 : AV) (l : List AV) (S : St) : Option AOut :=
  pk (alen a1) S fun r6 =>
  pk (bin2 Try.prog .lss 3 ((l.getD 0 .non)) r6) S fun r7 =>
  ifA r7
  (pk (pindex 4 a1 ((l.getD 0 .non)) S) S fun r8 =>
  pk (pfield r8 1 3) S fun r9 =>
  pk (ldA S r9 3) S fun r10 =>
  pq (call0 run 68 [a0, a1, r10] S) fun r11 =>
  pk (alen r11) S fun r12 =>
  pk (bin2 Try.prog .gtr 2 r12 a0) S fun r13 =>
  ifA r13
  (pk (pindex 4 a1 ((l.getD 0 .non)) S) S fun r14 =>
  pk (pfield r14 1 3) S fun r15 =>
  pk (ldA S r15 3) S fun r16 =>
  pk (abuild Try.prog 55 [(1, r16)]) S fun r17 =>
  pe (storeA 4 r1 r17 S) fun r18 S18 =>
  some (AOut.ret [(l.getD 0 .non)] S18))
  (pk (abin Try.prog .add 3 ((l.getD 0 .non)) (AV.int .i64 1)) S fun r19 =>
  some (AOut.norm [r19] S)))
  (some (AOut.exit 0 [(l.getD 0 .non)] S))
noncomputable def b26 (C : Cfg) (run : FuncId → List AV → St → Option (AV × St)) (a0 a1 : AV) (S : St) : Option (AV × St) :=
  pe (some (newBox S [AV.int .i64 0, AV.int .i64 0, AV.int .i64 0, AV.str ⟨#[]⟩])) fun r1 S1 =>
  pq (call0 run 46 [a0, a1] S1) fun r2 =>
  pk (abin Try.prog .neq 2 r2 (AV.int .i64 0)) S1 fun r3 =>
  ifA r3
  (pk (abuild Try.prog 55 [(0, r2)]) S1 fun r4 =>
  pe (storeA 4 r1 r4 S1) fun r5 S5 =>
  (ldA S5 r1 4).map (·, S5))
  ((aloop (s26_0 C run a0 a1 r1) C.N [AV.int .i64 0] S1).bind fun
  | AOut.norm _ _ => (none)
  | AOut.exit x20 l20 S20 => (if x20 = 0 then (pk (abuild Try.prog 55 [(0, AV.int .i64 10)]) S20 fun r21 =>
  pe (storeA 4 r1 r21 S20) fun r22 S22 =>
  (ldA S22 r1 4).map (·, S22)) else (none))
  | AOut.ret l20 S20 => ((ldA S20 r1 4).map (·, S20)))
theorem t26 (N d : Nat) (a0 a1 : AV) (S : St) : R N (d + 1) 26 [a0, a1] S = b26 (cfg N) (R N d) a0 a1 S := by unfold R; kernel_rfl
/- impl.within -/
noncomputable def b85 (C : Cfg) (run : FuncId → List AV → St → Option (AV × St)) (a0 a1 a2 : AV) (S : St) : Option (AV × St) :=
  pk (bin2 Try.prog .leq 2 a1 a0) S fun r1 =>
  guardA r1 true
  (pk (bin2 Try.prog .leq 2 a0 a2) S fun r2 =>
  some (r2, S))
  (some (AV.bool false, S))
theorem t85 (N d : Nat) (a0 a1 a2 : AV) (S : St) : R N (d + 1) 85 [a0, a1, a2] S = b85 (cfg N) (R N d) a0 a1 a2 S := by unfold R; kernel_rfl
/- impl.isF -/
noncomputable def b48 (C : Cfg) (run : FuncId → List AV → St → Option (AV × St)) (a0 : AV) (S : St) : Option (AV × St) :=
  pq (call0 run 85 [a0, AV.int .i64 1, AV.int .i64 2] S) fun r1 =>
  some (r1, S)
theorem t48 (N d : Nat) (a0 : AV) (S : St) : R N (d + 1) 48 [a0] S = b48 (cfg N) (R N d) a0 S := by unfold R; kernel_rfl
/- impl.Vote] -/
noncomputable def s86_0 (C : Cfg) (run : FuncId → List AV → St → Option (AV × St)) (a0 : AV) (a1 : AV) (r1 : AV) (l : List AV) (S : St) : Option AOut :=
  pk (bin2 Try.prog .lss 3 ((l.getD 1 .non)) r1) S fun r2 =>
  ifA r2
  (pk (pindex 4 a0 ((l.getD 1 .non)) S) S fun r3 =>
  pk (ldA S r3 4) S fun r4 =>
  pe (callV C run 86 a1 [r4] S) fun r5 S5 =>
  ifA r5
  (some (AOut.ret [(l.getD 1 .non), (l.getD 1 .non)] S5))
  (pk (abin Try.prog .add 3 ((l.getD 1 .non)) (AV.int .i64 1)) S5 fun r6 =>
  some (AOut.norm [(l.getD 0 .non), r6] S5)))
  (some (AOut.exit 0 [(l.getD 0 .non), (l.getD 1 .non)] S))
noncomputable def b86 (C : Cfg) (run : FuncId → List AV → St → Option (AV × St)) (a0 a1 : AV) (S : St) : Option (AV × St) :=
  pk (alen a0) S fun r1 =>
  (aloop (s86_0 C run a0 a1 r1) C.N [AV.int .i64 0, AV.int .i64 0] S).bind fun
  | AOut.norm _ _ => (none)
  | AOut.exit x7 l7 S7 => (if x7 = 0 then (some (AV.int .i64 (-1), S7)) else (none))
  | AOut.ret l7 S7 => (some ((l7.getD 0 .non), S7))
theorem t86 (N d : Nat) (a0 a1 : AV) (S : St) : R N (d + 1) 86 [a0, a1] S = b86 (cfg N) (R N d) a0 a1 S := by unfold R; kernel_rfl
/- impl.Vote] -/
noncomputable def b49 (C : Cfg) (run : FuncId → List AV → St → Option (AV × St)) (a0 a1 : AV) (S : St) : Option (AV × St) :=
  pq (call0 run 86 [a0, a1] S) fun r1 =>
  pk (abin Try.prog .geq 3 r1 (AV.int .i64 0)) S fun r2 =>
  some (r2, S)
theorem t49 (N d : Nat) (a0 a1 : AV) (S : St) : R N (d + 1) 49 [a0, a1] S = b49 (cfg N) (R N d) a0 a1 S := by unfold R; kernel_rfl
/- impl.many -/
noncomputable def b87 (C : Cfg) (run : FuncId → List AV → St → Option (AV × St)) (a0 : AV) (S : St) : Option (AV × St) :=
  pk (abin Try.prog .mul 2 (AV.int .i64 3) a0) S fun r1 =>
  pk (abin Try.prog .add 2 r1 (AV.int .i64 1)) S fun r2 =>
  some (r2, S)
theorem t87 (N d : Nat) (a0 : AV) (S : St) : R N (d + 1) 87 [a0] S = b87 (cfg N) (R N d) a0 S := by unfold R; kernel_rfl
/- impl.isReplica -/
noncomputable def b51 (C : Cfg) (run : FuncId → List AV → St → Option (AV × St)) (a0 a1 : AV) (S : St) : Option (AV × St) :=
  pq (call0 run 87 [a0] S) fun r1 =>
  pq (call0 run 85 [a1, AV.int .i64 1, r1] S) fun r2 =>
  some (r2, S)
theorem t51 (N d : Nat) (a0 a1 : AV) (S : St) : R N (d + 1) 51 [a0, a1] S = b51 (cfg N) (R N d) a0 a1 S := by unfold R; kernel_rfl
/- impl.isReply -/
noncomputable def b52 (C : Cfg) (run : FuncId → List AV → St → Option (AV × St)) (a0 : AV) (S : St) : Option (AV × St) :=
  pe (boxA a0 S) fun r1 S1 =>
  (pk (pfield r1 0 1) S1 fun r2 =>
  pk (ld1 S1 r2) S1 fun r3 =>
  pq (call0 run 85 [r3, AV.int .i64 0, AV.int .i64 10] S1) fun r4 =>
  guardA r4 true
  (pk (pfield r1 1 1) S1 fun r5 =>
  pk (ld1 S1 r5) S1 fun r6 =>
  pq (call0 run 85 [r6, AV.int .i64 (-1), AV.int .i64 9999] S1) fun r7 =>
  guardA r7 true
  (pk (pfield r1 2 1) S1 fun r8 =>
  pk (ld1 S1 r8) S1 fun r9 =>
  pk (slen r9) S1 fun r10 =>
  pk (abin Try.prog .leq 3 r10 (AV.int .i64 24)) S1 fun r11 =>
  some (AOut.norm [r11] S1))
  (some (AOut.norm [AV.bool false] S1)))
  (some (AOut.norm [AV.bool false] S1))).bind fun
  | AOut.norm l12 S12 => (some ((l12.getD 0 .non), S12))
  | AOut.exit x12 l12 S12 => (none)
  | AOut.ret l12 S12 => (some ((l12.getD 0 .non), S12))
theorem t52 (N d : Nat) (a0 : AV) (S : St) : R N (d + 1) 52 [a0] S = b52 (cfg N) (R N d) a0 S := by unfold R; kernel_rfl
/- impl.VotesFault$1 -/
noncomputable def b50 (C : Cfg) (run : FuncId → List AV → St → Option (AV × St)) (a0 a1 : AV) (S : St) : Option (AV × St) :=
  pe (boxA a0 S) fun r1 S1 =>
  pk (ld1 S1 a1) S1 fun r2 =>
  pk (pfield r1 0 1) S1 fun r3 =>
  pk (ld1 S1 r3) S1 fun r4 =>
  pq (call0 run 51 [r2, r4] S1) fun r5 =>
  pk (aun .not r5) S1 fun r6 =>
  guardA r6 false
  (pk (pfield r1 1 3) S1 fun r7 =>
  pk (ldA S1 r7 3) S1 fun r8 =>
  pq (call0 run 52 [r8] S1) fun r9 =>
  pk (aun .not r9) S1 fun r10 =>
  some (r10, S1))
  (some (AV.bool true, S1))
theorem t50 (N d : Nat) (a0 a1 : AV) (S : St) : R N (d + 1) 50 [a0, a1] S = b50 (cfg N) (R N d) a0 a1 S := by unfold R; kernel_rfl
/- impl.VotesFault -/
noncomputable def b11 (C : Cfg) (run : FuncId → List AV → St → Option (AV × St)) (a0 a1 : AV) (S : St) : Option (AV × St) :=
  pe (boxA a0 S) fun r1 S1 =>
  pk (ld1 S1 r1) S1 fun r2 =>
  pq (call0 run 48 [r2] S1) fun r3 =>
  pk (aun .not r3) S1 fun r4 =>
  ifA r4
  (some (AV.int .i64 3, S1))
  (pk (alen a1) S1 fun r5 =>
  pk (abin Try.prog .gtr 3 r5 (AV.int .i64 40)) S1 fun r6 =>
  ifA r6
  (some (AV.int .i64 2, S1))
  (pq (call0 run 49 [a1, AV.fn 50 [r1]] S1) fun r7 =>
  ifA r7
  (some (AV.int .i64 3, S1))
  (some (AV.int .i64 0, S1))))
theorem t11 (N d : Nat) (a0 a1 : AV) (S : St) : R N (d + 1) 11 [a0, a1] S = b11 (cfg N) (R N d) a0 a1 S := by unfold R; kernel_rfl
/- cmp.isNaN[int64] -/
noncomputable def b155 (C : Cfg) (run : FuncId → List AV → St → Option (AV × St)) (a0 : AV) (S : St) : Option (AV × St) :=
  pk (bin2 Try.prog .neq 2 a0 a0) S fun r1 =>
  some (r1, S)
theorem t155 (N d : Nat) (a0 : AV) (S : St) : R N (d + 1) 155 [a0] S = b155 (cfg N) (R N d) a0 S := by unfold R; kernel_rfl
/- cmp.Less[int64] -/
noncomputable def b144 (C : Cfg) (run : FuncId → List AV → St → Option (AV × St)) (a0 a1 : AV) (S : St) : Option (AV × St) :=
  (pq (call0 run 155 [a0] S) fun r1 =>
  guardA r1 true
  (pq (call0 run 155 [a1] S) fun r2 =>
  pk (aun .not r2) S fun r3 =>
  guardA r3 false
  (pk (bin2 Try.prog .lss 2 a0 a1) S fun r4 =>
  some (AOut.norm [r4] S))
  (some (AOut.norm [AV.bool true] S)))
  (pk (bin2 Try.prog .lss 2 a0 a1) S fun r5 =>
  some (AOut.norm [r5] S))).bind fun
  | AOut.norm l6 S6 => (some ((l6.getD 0 .non), S6))
  | AOut.exit x6 l6 S6 => (none)
  | AOut.ret l6 S6 => (some ((l6.getD 0 .non), S6))
theorem t144 (N d : Nat) (a0 a1 : AV) (S : St) : R N (d + 1) 144 [a0, a1] S = b144 (cfg N) (R N d) a0 a1 S := by unfold R; kernel_rfl
/- slices.insertionSortOrdered[int64] -/
noncomputable def s138_0 (C : Cfg) (run : FuncId → List AV → St → Option (AV × St)) (a0 : AV) (a1 : AV) (l3 : List AV) (S : St) : Option AOut :=
  ((pk (bin2 Try.prog .gtr 3 ((l3.getD 0 .non)) a1) S fun r4 =>
  guardA r4 true
  (pk (pindex 1 a0 ((l3.getD 0 .non)) S) S fun r5 =>
  pk (ld1 S r5) S fun r6 =>
  pk (abin Try.prog .sub 3 ((l3.getD 0 .non)) (AV.int .i64 1)) S fun r7 =>
  pk (pindex 1 a0 r7 S) S fun r8 =>
  pk (ld1 S r8) S fun r9 =>
  pq (call0 run 144 [r6, r9] S) fun r10 =>
  some (AOut.norm [r10] S))
  (some (AOut.norm [AV.bool false] S))).bind fun
  | AOut.norm l11 S11 => (ifA ((l11.getD 0 .non))
  (some (AOut.norm [(l11.getD 0 .non)] S11))
  (some (AOut.exit 2 [(l11.getD 0 .non)] S11)))
  | AOut.exit x11 l11 S11 => (some (AOut.exit x11 [(l11.getD 0 .non)] S11))
  | AOut.ret l11 S11 => (some (AOut.ret [(l11.getD 0 .non)] S11))).bind fun
  | AOut.norm l12 S12 => (pk (abin Try.prog .sub 3 ((l3.getD 0 .non)) (AV.int .i64 1)) S12 fun r13 =>
  pk (abin Try.prog .sub 3 ((l3.getD 0 .non)) (AV.int .i64 1)) S12 fun r14 =>
  pk (pindex 1 a0 r14 S12) S12 fun r15 =>
  pk (ld1 S12 r15) S12 fun r16 =>
  pk (pindex 1 a0 ((l3.getD 0 .non)) S12) S12 fun r17 =>
  pk (ld1 S12 r17) S12 fun r18 =>
  pk (pindex 1 a0 ((l3.getD 0 .non)) S12) S12 fun r19 =>
  pe (storeA 1 r19 r16 S12) fun r20 S20 =>
  pk (pindex 1 a0 r13 S20) S20 fun r21 =>
  pe (storeA 1 r21 r18 S20) fun r22 S22 =>
  pk (abin Try.prog .sub 3 ((l3.getD 0 .non)) (AV.int .i64 1)) S22 fun r23 =>
  some (AOut.norm [r23] S22))
  | AOut.exit x12 l12 S12 => (some (AOut.exit x12 [(l3.getD 0 .non)] S12))
  | AOut.ret l12 S12 => (some (AOut.ret [(l3.getD 0 .non)] S12))
noncomputable def s138_1 (C : Cfg) (run : FuncId → List AV → St → Option (AV × St)) (a0 : AV) (a1 : AV) (a2 : AV) (l : List AV) (S : St) : Option AOut :=
  pk (bin2 Try.prog .lss 3 ((l.getD 0 .non)) a2) S fun r2 =>
  ifA r2
  ((aloop (s138_0 C run a0 a1) C.N [(l.getD 0 .non)] S).bind fun
  | AOut.norm _ _ => (none)
  | AOut.exit x24 l24 S24 => (if x24 = 2 then (pk (abin Try.prog .add 3 ((l.getD 0 .non)) (AV.int .i64 1)) S24 fun r25 =>
  some (AOut.norm [r25] S24)) else (if x24 = 1 then (pk (abin Try.prog .add 3 ((l.getD 0 .non)) (AV.int .i64 1)) S24 fun r26 =>
  some (AOut.norm [r26] S24)) else (some (AOut.exit x24 [(l.getD 0 .non)] S24))))
  | AOut.ret l24 S24 => (some (AOut.ret [(l.getD 0 .non)] S24)))
  (some (AOut.exit 0 [(l.getD 0 .non)] S))
noncomputable def b138 (C : Cfg) (run : FuncId → List AV → St → Option (AV × St)) (a0 a1 a2 : AV) (S : St) : Option (AV × St) :=
  pk (abin Try.prog .add 3 a1 (AV.int .i64 1)) S fun r1 =>
  (aloop (s138_1 C run a0 a1 a2) C.N [r1] S).bind fun
  | AOut.norm _ _ => (none)
  | AOut.exit x27 l27 S27 => (if x27 = 0 then (some (und, S27)) else (none))
  | AOut.ret l27 S27 => (some (und, S27))
theorem t138 (N d : Nat) (a0 a1 a2 : AV) (S : St) : R N (d + 1) 138 [a0, a1, a2] S = b138 (cfg N) (R N d) a0 a1 a2 S := by unfold R; kernel_rfl
/- slices.siftDownOrdered[int64] -/
noncomputable def s150_0 (C : Cfg) (run : FuncId → List AV → St → Option (AV × St)) (a0 : AV) (a2 : AV) (a3 : AV) (l : List AV) (S : St) : Option AOut :=
  pk (abin Try.prog .mul 3 (AV.int .i64 2) ((l.getD 0 .non))) S fun r1 =>
  pk (abin Try.prog .add 3 r1 (AV.int .i64 1)) S fun r2 =>
  pk (bin2 Try.prog .geq 3 r2 a2) S fun r3 =>
  ifA r3
  (some (AOut.exit 0 [(l.getD 0 .non)] S))
  ((pk (abin Try.prog .add 3 r2 (AV.int .i64 1)) S fun r4 =>
  pk (bin2 Try.prog .lss 3 r4 a2) S fun r5 =>
  guardA r5 true
  (pk (bin2 Try.prog .add 3 a3 r2) S fun r6 =>
  pk (pindex 1 a0 r6 S) S fun r7 =>
  pk (ld1 S r7) S fun r8 =>
  pk (bin2 Try.prog .add 3 a3 r2) S fun r9 =>
  pk (abin Try.prog .add 3 r9 (AV.int .i64 1)) S fun r10 =>
  pk (pindex 1 a0 r10 S) S fun r11 =>
  pk (ld1 S r11) S fun r12 =>
  pq (call0 run 144 [r8, r12] S) fun r13 =>
  ifA r13
  (pk (abin Try.prog .add 3 r2 (AV.int .i64 1)) S fun r14 =>
  some (AOut.norm [r14] S))
  (some (AOut.norm [r2] S)))
  (some (AOut.norm [r2] S))).bind fun
  | AOut.norm l15 S15 => (pk (bin2 Try.prog .add 3 a3 ((l.getD 0 .non))) S15 fun r16 =>
  pk (pindex 1 a0 r16 S15) S15 fun r17 =>
  pk (ld1 S15 r17) S15 fun r18 =>
  pk (bin2 Try.prog .add 3 a3 ((l15.getD 0 .non))) S15 fun r19 =>
  pk (pindex 1 a0 r19 S15) S15 fun r20 =>
  pk (ld1 S15 r20) S15 fun r21 =>
  pq (call0 run 144 [r18, r21] S15) fun r22 =>
  pk (aun .not r22) S15 fun r23 =>
  ifA r23
  (some (AOut.ret [(l.getD 0 .non)] S15))
  (pk (bin2 Try.prog .add 3 a3 ((l.getD 0 .non))) S15 fun r24 =>
  pk (bin2 Try.prog .add 3 a3 ((l15.getD 0 .non))) S15 fun r25 =>
  pk (bin2 Try.prog .add 3 a3 ((l15.getD 0 .non))) S15 fun r26 =>
  pk (pindex 1 a0 r26 S15) S15 fun r27 =>
  pk (ld1 S15 r27) S15 fun r28 =>
  pk (bin2 Try.prog .add 3 a3 ((l.getD 0 .non))) S15 fun r29 =>
  pk (pindex 1 a0 r29 S15) S15 fun r30 =>
  pk (ld1 S15 r30) S15 fun r31 =>
  pk (pindex 1 a0 r24 S15) S15 fun r32 =>
  pe (storeA 1 r32 r28 S15) fun r33 S33 =>
  pk (pindex 1 a0 r25 S33) S33 fun r34 =>
  pe (storeA 1 r34 r31 S33) fun r35 S35 =>
  some (AOut.norm [(l15.getD 0 .non)] S35)))
  | AOut.exit x15 l15 S15 => (if x15 = 1 then (some (AOut.norm [(l.getD 0 .non)] S15)) else (some (AOut.exit x15 [(l.getD 0 .non)] S15)))
  | AOut.ret l15 S15 => (some (AOut.ret [(l.getD 0 .non)] S15)))
noncomputable def b150 (C : Cfg) (run : FuncId → List AV → St → Option (AV × St)) (a0 a1 a2 a3 : AV) (S : St) : Option (AV × St) :=
  (aloop (s150_0 C run a0 a2 a3) C.N [a1] S).bind fun
  | AOut.norm _ _ => (none)
  | AOut.exit x36 l36 S36 => (if x36 = 0 then (some (und, S36)) else (none))
  | AOut.ret l36 S36 => (some (und, S36))
theorem t150 (N d : Nat) (a0 a1 a2 a3 : AV) (S : St) : R N (d + 1) 150 [a0, a1, a2, a3] S = b150 (cfg N) (R N d) a0 a1 a2 a3 S := by unfold R; kernel_rfl
/- slices.heapSortOrdered[int64] -/
noncomputable def s139_0 (C : Cfg) (run : FuncId → List AV → St → Option (AV × St)) (a0 : AV) (a1 : AV) (r1 : AV) (l : List AV) (S : St) : Option AOut :=
  pk (abin Try.prog .geq 3 ((l.getD 0 .non)) (AV.int .i64 0)) S fun r4 =>
  ifA r4
  (pe (callS run 150 [a0, (l.getD 0 .non), r1, a1] S) fun r5 S5 =>
  pk (abin Try.prog .sub 3 ((l.getD 0 .non)) (AV.int .i64 1)) S5 fun r6 =>
  some (AOut.norm [r6] S5))
  (some (AOut.exit 0 [(l.getD 0 .non)] S))
noncomputable def s139_1 (C : Cfg) (run : FuncId → List AV → St → Option (AV × St)) (a0 : AV) (a1 : AV) (l : List AV) (S : St) : Option AOut :=
  pk (abin Try.prog .geq 3 ((l.getD 0 .non)) (AV.int .i64 0)) S fun r9 =>
  ifA r9
  (pk (bin2 Try.prog .add 3 a1 ((l.getD 0 .non))) S fun r10 =>
  pk (bin2 Try.prog .add 3 a1 ((l.getD 0 .non))) S fun r11 =>
  pk (pindex 1 a0 r11 S) S fun r12 =>
  pk (ld1 S r12) S fun r13 =>
  pk (pindex 1 a0 a1 S) S fun r14 =>
  pk (ld1 S r14) S fun r15 =>
  pk (pindex 1 a0 a1 S) S fun r16 =>
  pe (storeA 1 r16 r13 S) fun r17 S17 =>
  pk (pindex 1 a0 r10 S17) S17 fun r18 =>
  pe (storeA 1 r18 r15 S17) fun r19 S19 =>
  pe (callS run 150 [a0, AV.int .i64 0, (l.getD 0 .non), a1] S19) fun r20 S20 =>
  pk (abin Try.prog .sub 3 ((l.getD 0 .non)) (AV.int .i64 1)) S20 fun r21 =>
  some (AOut.norm [r21] S20))
  (some (AOut.exit 2 [(l.getD 0 .non)] S))
noncomputable def b139 (C : Cfg) (run : FuncId → List AV → St → Option (AV × St)) (a0 a1 a2 : AV) (S : St) : Option (AV × St) :=
  pk (bin2 Try.prog .sub 3 a2 a1) S fun r1 =>
  pk (abin Try.prog .sub 3 r1 (AV.int .i64 1)) S fun r2 =>
  pk (abin Try.prog .quo 3 r2 (AV.int .i64 2)) S fun r3 =>
  (aloop (s139_0 C run a0 a1 r1) C.N [r3] S).bind fun
  | AOut.norm _ _ => (none)
  | AOut.exit x7 l7 S7 => (if x7 = 0 then (pk (abin Try.prog .sub 3 r1 (AV.int .i64 1)) S7 fun r8 =>
  (aloop (s139_1 C run a0 a1) C.N [r8] S7).bind fun
  | AOut.norm _ _ => (none)
  | AOut.exit x22 l22 S22 => (if x22 = 2 then (some (und, S22)) else (none))
  | AOut.ret l22 S22 => (some (und, S22))) else (none))
  | AOut.ret l7 S7 => (some (und, S7))
theorem t139 (N d : Nat) (a0 a1 a2 : AV) (S : St) : R N (d + 1) 139 [a0, a1, a2] S = b139 (cfg N) (R N d) a0 a1 a2 S := by unfold R; kernel_rfl
/- math/bits.Len32 -/
noncomputable def b147 (C : Cfg) (run : FuncId → List AV → St → Option (AV × St)) (a0 : AV) (S : St) : Option (AV × St) :=
  (pk (abin Try.prog .geq 169 a0 (AV.int .u32 65536)) S fun r1 =>
  ifA r1
  (pk (abin Try.prog .shr 169 a0 (AV.int .u64 16)) S fun r2 =>
  some (AOut.norm [r2, AV.int .i64 16] S))
  (some (AOut.norm [a0, AV.int .i64 0] S))).bind fun
  | AOut.norm l3 S3 => ((pk (abin Try.prog .geq 169 ((l3.getD 0 .non)) (AV.int .u32 256)) S3 fun r4 =>
  ifA r4
  (pk (abin Try.prog .shr 169 ((l3.getD 0 .non)) (AV.int .u64 8)) S3 fun r5 =>
  pk (abin Try.prog .add 3 ((l3.getD 1 .non)) (AV.int .i64 8)) S3 fun r6 =>
  some (AOut.norm [r5, r6] S3))
  (some (AOut.norm [(l3.getD 0 .non), (l3.getD 1 .non)] S3))).bind fun
  | AOut.norm l7 S7 => (pk (aconv Try.prog 169 5 ((l7.getD 0 .non)) S7) S7 fun r8 =>
  pk (sindex (AV.str ⟨#[0, 1, 2, 2, 3, 3, 3, 3, 4, 4, 4, 4, 4, 4, 4, 4, 5, 5, 5, 5, 5, 5, 5, 5, 5, 5, 5, 5, 5, 5, 5, 5, 6, 6, 6, 6, 6, 6, 6, 6, 6, 6, 6, 6, 6, 6, 6, 6, 6, 6, 6, 6, 6, 6, 6, 6, 6, 6, 6, 6, 6, 6, 6, 6, 7, 7, 7, 7, 7, 7, 7, 7, 7, 7, 7, 7, 7, 7, 7, 7, 7, 7, 7, 7, 7, 7, 7, 7, 7, 7, 7, 7, 7, 7, 7, 7, 7, 7, 7, 7, 7, 7, 7, 7, 7, 7, 7, 7, 7, 7, 7, 7, 7, 7, 7, 7, 7, 7, 7, 7, 7, 7, 7, 7, 7, 7, 7, 7, 8, 8, 8, 8, 8, 8, 8, 8, 8, 8, 8, 8, 8, 8, 8, 8, 8, 8, 8, 8, 8, 8, 8, 8, 8, 8, 8, 8, 8, 8, 8, 8, 8, 8, 8, 8, 8, 8, 8, 8, 8, 8, 8, 8, 8, 8, 8, 8, 8, 8, 8, 8, 8, 8, 8, 8, 8, 8, 8, 8, 8, 8, 8, 8, 8, 8, 8, 8, 8, 8, 8, 8, 8, 8, 8, 8, 8, 8, 8, 8, 8, 8, 8, 8, 8, 8, 8, 8, 8, 8, 8, 8, 8, 8, 8, 8, 8, 8, 8, 8, 8, 8, 8, 8, 8, 8, 8, 8, 8, 8, 8, 8, 8, 8, 8, 8, 8, 8, 8, 8, 8, 8, 8, 8, 8, 8, 8, 8]⟩) r8) S7 fun r9 =>
  pk (aconv Try.prog 5 3 r9 S7) S7 fun r10 =>
  pk (bin2 Try.prog .add 3 ((l7.getD 1 .non)) r10) S7 fun r11 =>
  some (r11, S7))
  | AOut.exit x7 l7 S7 => (none)
  | AOut.ret l7 S7 => (some ((l7.getD 1 .non), S7)))
  | AOut.exit x3 l3 S3 => (none)
  | AOut.ret l3 S3 => (some ((l3.getD 1 .non), S3))
theorem t147 (N d : Nat) (a0 : AV) (S : St) : R N (d + 1) 147 [a0] S = b147 (cfg N) (R N d) a0 S := by unfold R; kernel_rfl
/- math/bits.Len64 -/
noncomputable def b148 (C : Cfg) (run : FuncId → List AV → St → Option (AV × St)) (a0 : AV) (S : St) : Option (AV × St) :=
  (pk (abin Try.prog .geq 171 a0 (AV.int .u64 4294967296)) S fun r1 =>
  ifA r1
  (pk (abin Try.prog .shr 171 a0 (AV.int .u64 32)) S fun r2 =>
  some (AOut.norm [r2, AV.int .i64 32] S))
  (some (AOut.norm [a0, AV.int .i64 0] S))).bind fun
  | AOut.norm l3 S3 => ((pk (abin Try.prog .geq 171 ((l3.getD 0 .non)) (AV.int .u64 65536)) S3 fun r4 =>
  ifA r4
  (pk (abin Try.prog .shr 171 ((l3.getD 0 .non)) (AV.int .u64 16)) S3 fun r5 =>
  pk (abin Try.prog .add 3 ((l3.getD 1 .non)) (AV.int .i64 16)) S3 fun r6 =>
  some (AOut.norm [r5, r6] S3))
  (some (AOut.norm [(l3.getD 0 .non), (l3.getD 1 .non)] S3))).bind fun
  | AOut.norm l7 S7 => ((pk (abin Try.prog .geq 171 ((l7.getD 0 .non)) (AV.int .u64 256)) S7 fun r8 =>
  ifA r8
  (pk (abin Try.prog .shr 171 ((l7.getD 0 .non)) (AV.int .u64 8)) S7 fun r9 =>
  pk (abin Try.prog .add 3 ((l7.getD 1 .non)) (AV.int .i64 8)) S7 fun r10 =>
  some (AOut.norm [r9, r10] S7))
  (some (AOut.norm [(l7.getD 0 .non), (l7.getD 1 .non)] S7))).bind fun
  | AOut.norm l11 S11 => (pk (aconv Try.prog 171 5 ((l11.getD 0 .non)) S11) S11 fun r12 =>
  pk (sindex (AV.str ⟨#[0, 1, 2, 2, 3, 3, 3, 3, 4, 4, 4, 4, 4, 4, 4, 4, 5, 5, 5, 5, 5, 5, 5, 5, 5, 5, 5, 5, 5, 5, 5, 5, 6, 6, 6, 6, 6, 6, 6, 6, 6, 6, 6, 6, 6, 6, 6, 6, 6, 6, 6, 6, 6, 6, 6, 6, 6, 6, 6, 6, 6, 6, 6, 6, 7, 7, 7, 7, 7, 7, 7, 7, 7, 7, 7, 7, 7, 7, 7, 7, 7, 7, 7, 7, 7, 7, 7, 7, 7, 7, 7, 7, 7, 7, 7, 7, 7, 7, 7, 7, 7, 7, 7, 7, 7, 7, 7, 7, 7, 7, 7, 7, 7, 7, 7, 7, 7, 7, 7, 7, 7, 7, 7, 7, 7, 7, 7, 7, 8, 8, 8, 8, 8, 8, 8, 8, 8, 8, 8, 8, 8, 8, 8, 8, 8, 8, 8, 8, 8, 8, 8, 8, 8, 8, 8, 8, 8, 8, 8, 8, 8, 8, 8, 8, 8, 8, 8, 8, 8, 8, 8, 8, 8, 8, 8, 8, 8, 8, 8, 8, 8, 8, 8, 8, 8, 8, 8, 8, 8, 8, 8, 8, 8, 8, 8, 8, 8, 8, 8, 8, 8, 8, 8, 8, 8, 8, 8, 8, 8, 8, 8, 8, 8, 8, 8, 8, 8, 8, 8, 8, 8, 8, 8, 8, 8, 8, 8, 8, 8, 8, 8, 8, 8, 8, 8, 8, 8, 8, 8, 8, 8, 8, 8, 8, 8, 8, 8, 8, 8, 8, 8, 8, 8, 8, 8, 8]⟩) r12) S11 fun r13 =>
  pk (aconv Try.prog 5 3 r13 S11) S11 fun r14 =>
  pk (bin2 Try.prog .add 3 ((l11.getD 1 .non)) r14) S11 fun r15 =>
  some (r15, S11))
  | AOut.exit x11 l11 S11 => (none)
  | AOut.ret l11 S11 => (some ((l11.getD 1 .non), S11)))
  | AOut.exit x7 l7 S7 => (none)
  | AOut.ret l7 S7 => (some ((l7.getD 1 .non), S7)))
  | AOut.exit x3 l3 S3 => (none)
  | AOut.ret l3 S3 => (some ((l3.getD 1 .non), S3))
theorem t148 (N d : Nat) (a0 : AV) (S : St) : R N (d + 1) 148 [a0] S = b148 (cfg N) (R N d) a0 S := by unfold R; kernel_rfl
/- math/bits.Len -/
noncomputable def b130 (C : Cfg) (run : FuncId → List AV → St → Option (AV × St)) (a0 : AV) (S : St) : Option (AV × St) :=
  pq (call0 run 148 [a0] S) fun r1 =>
  some (r1, S)
theorem t130 (N d : Nat) (a0 : AV) (S : St) : R N (d + 1) 130 [a0] S = b130 (cfg N) (R N d) a0 S := by unfold R; kernel_rfl
/- slices.nextPowerOfTwo -/
noncomputable def b151 (C : Cfg) (run : FuncId → List AV → St → Option (AV × St)) (a0 : AV) (S : St) : Option (AV × St) :=
  pk (aconv Try.prog 3 152 a0 S) S fun r1 =>
  pq (call0 run 130 [r1] S) fun r2 =>
  pk (abin Try.prog .shl 152 (AV.int .u64 1) r2) S fun r3 =>
  some (r3, S)
theorem t151 (N d : Nat) (a0 : AV) (S : St) : R N (d + 1) 151 [a0] S = b151 (cfg N) (R N d) a0 S := by unfold R; kernel_rfl
/- (*slices.xorshift).Next -/
noncomputable def b152 (C : Cfg) (run : FuncId → List AV → St → Option (AV × St)) (a0 : AV) (S : St) : Option (AV × St) :=
  pq (nilA a0 S) fun r1 =>
  pk (ld1 S r1) S fun r2 =>
  pq (nilA a0 S) fun r3 =>
  pk (ld1 S r3) S fun r4 =>
  pk (abin Try.prog .shl 175 r4 (AV.int .u64 13)) S fun r5 =>
  pk (bin2 Try.prog .xor 175 r2 r5) S fun r6 =>
  pq (nilA a0 S) fun r7 =>
  pe (storeA 1 r7 r6 S) fun r8 S8 =>
  pq (nilA a0 S8) fun r9 =>
  pk (ld1 S8 r9) S8 fun r10 =>
  pq (nilA a0 S8) fun r11 =>
  pk (ld1 S8 r11) S8 fun r12 =>
  pk (abin Try.prog .shr 175 r12 (AV.int .u64 7)) S8 fun r13 =>
  pk (bin2 Try.prog .xor 175 r10 r13) S8 fun r14 =>
  pq (nilA a0 S8) fun r15 =>
  pe (storeA 1 r15 r14 S8) fun r16 S16 =>
  pq (nilA a0 S16) fun r17 =>
  pk (ld1 S16 r17) S16 fun r18 =>
  pq (nilA a0 S16) fun r19 =>
  pk (ld1 S16 r19) S16 fun r20 =>
  pk (abin Try.prog .shl 175 r20 (AV.int .u64 17)) S16 fun r21 =>
  pk (bin2 Try.prog .xor 175 r18 r21) S16 fun r22 =>
  pq (nilA a0 S16) fun r23 =>
  pe (storeA 1 r23 r22 S16) fun r24 S24 =>
  pq (nilA a0 S24) fun r25 =>
  pk (ld1 S24 r25) S24 fun r26 =>
  some (r26, S24)
theorem t152 (N d : Nat) (a0 : AV) (S : St) : R N (d + 1) 152 [a0] S = b152 (cfg N) (R N d) a0 S := by unfold R; kernel_rfl
/- slices.breakPatternsOrdered[int64] -/
noncomputable def s140_0 (C : Cfg) (run : FuncId → List AV → St → Option (AV × St)) (a0 : AV) (a1 : AV) (r1 : AV) (r4 : AV) (r6 : AV) (l : List AV) (S : St) : Option AOut :=
  pk (abin Try.prog .quo 3 r1 (AV.int .i64 4)) S fun r11 =>
  pk (abin Try.prog .mul 3 r11 (AV.int .i64 2)) S fun r12 =>
  pk (bin2 Try.prog .add 3 a1 r12) S fun r13 =>
  pk (abin Try.prog .add 3 r13 (AV.int .i64 1)) S fun r14 =>
  pk (bin2 Try.prog .leq 3 ((l.getD 0 .non)) r14) S fun r15 =>
  ifA r15
  ((pe (callS run 152 [r4] S) fun r16 S16 =>
  pk (abin Try.prog .sub 152 r6 (AV.int .u64 1)) S16 fun r17 =>
  pk (bin2 Try.prog .and 152 r16 r17) S16 fun r18 =>
  pk (aconv Try.prog 152 3 r18 S16) S16 fun r19 =>
  (pk (bin2 Try.prog .geq 3 r19 r1) S16 fun r20 =>
  ifA r20
  (pk (bin2 Try.prog .sub 3 r19 r1) S16 fun r21 =>
  some (AOut.norm [r21] S16))
  (some (AOut.norm [r19] S16))).bind fun
  | AOut.norm l22 S22 => (pk (bin2 Try.prog .add 3 a1 ((l22.getD 0 .non))) S22 fun r23 =>
  pk (bin2 Try.prog .add 3 a1 ((l22.getD 0 .non))) S22 fun r24 =>
  pk (pindex 1 a0 r24 S22) S22 fun r25 =>
  pk (ld1 S22 r25) S22 fun r26 =>
  pk (pindex 1 a0 ((l.getD 0 .non)) S22) S22 fun r27 =>
  pk (ld1 S22 r27) S22 fun r28 =>
  pk (pindex 1 a0 ((l.getD 0 .non)) S22) S22 fun r29 =>
  pe (storeA 1 r29 r26 S22) fun r30 S30 =>
  pk (pindex 1 a0 r23 S30) S30 fun r31 =>
  pe (storeA 1 r31 r28 S30) fun r32 S32 =>
  some (AOut.norm [] S32))
  | AOut.exit x22 l22 S22 => (if x22 = 1 then (some (AOut.norm [] S22)) else (some (AOut.exit x22 [] S22)))
  | AOut.ret l22 S22 => (some (AOut.ret [] S22))).bind fun
  | AOut.norm l33 S33 => (pk (abin Try.prog .add 3 ((l.getD 0 .non)) (AV.int .i64 1)) S33 fun r34 =>
  some (AOut.norm [r34] S33))
  | AOut.exit x33 l33 S33 => (some (AOut.exit x33 [(l.getD 0 .non)] S33))
  | AOut.ret l33 S33 => (some (AOut.ret [(l.getD 0 .non)] S33)))
  (some (AOut.exit 0 [(l.getD 0 .non)] S))
noncomputable def b140 (C : Cfg) (run : FuncId → List AV → St → Option (AV × St)) (a0 a1 a2 : AV) (S : St) : Option (AV × St) :=
  pk (bin2 Try.prog .sub 3 a2 a1) S fun r1 =>
  pk (abin Try.prog .geq 3 r1 (AV.int .i64 8)) S fun r2 =>
  ifA r2
  (pk (aconv Try.prog 3 175 r1 S) S fun r3 =>
  pe (some (newBox S [AV.int .u64 0])) fun r4 S4 =>
  pe (storeA 1 r4 r3 S4) fun r5 S5 =>
  pq (call0 run 151 [r1] S5) fun r6 =>
  pk (abin Try.prog .quo 3 r1 (AV.int .i64 4)) S5 fun r7 =>
  pk (abin Try.prog .mul 3 r7 (AV.int .i64 2)) S5 fun r8 =>
  pk (bin2 Try.prog .add 3 a1 r8) S5 fun r9 =>
  pk (abin Try.prog .sub 3 r9 (AV.int .i64 1)) S5 fun r10 =>
  (aloop (s140_0 C run a0 a1 r1 r4 r6) C.N [r10] S5).bind fun
  | AOut.norm _ _ => (none)
  | AOut.exit x35 l35 S35 => (if x35 = 0 then (some (und, S35)) else (none))
  | AOut.ret l35 S35 => (some (und, S35)))
  (some (und, S))
theorem t140 (N d : Nat) (a0 a1 a2 : AV) (S : St) : R N (d + 1) 140 [a0, a1, a2] S = b140 (cfg N) (R N d) a0 a1 a2 S := by unfold R; kernel_rfl
/- slices.order2Ordered[int64] -/
noncomputable def b157 (C : Cfg) (run : FuncId → List AV → St → Option (AV × St)) (a0 a1 a2 a3 : AV) (S : St) : Option (AV × St) :=
  pk (pindex 1 a0 a2 S) S fun r1 =>
  pk (ld1 S r1) S fun r2 =>
  pk (pindex 1 a0 a1 S) S fun r3 =>
  pk (ld1 S r3) S fun r4 =>
  pq (call0 run 144 [r2, r4] S) fun r5 =>
  ifA r5
  (pq (nilA a3 S) fun r6 =>
  pk (ld1 S r6) S fun r7 =>
  pk (abin Try.prog .add 3 r7 (AV.int .i64 1)) S fun r8 =>
  pq (nilA a3 S) fun r9 =>
  pe (storeA 1 r9 r8 S) fun r10 S10 =>
  some (AV.tup [a2, a1], S10))
  (some (AV.tup [a1, a2], S))
theorem t157 (N d : Nat) (a0 a1 a2 a3 : AV) (S : St) : R N (d + 1) 157 [a0, a1, a2, a3] S = b157 (cfg N) (R N d) a0 a1 a2 a3 S := by unfold R; kernel_rfl
/- slices.medianOrdered[int64] -/
noncomputable def b154 (C : Cfg) (run : FuncId → List AV → St → Option (AV × St)) (a0 a1 a2 a3 a4 : AV) (S : St) : Option (AV × St) :=
  pe (callS run 157 [a0, a1, a2, a4] S) fun r1 S1 =>
  pq (extA r1 0 S1) fun r2 =>
  pq (extA r1 1 S1) fun r3 =>
  pe (callS run 157 [a0, r3, a3, a4] S1) fun r4 S4 =>
  pq (extA r4 0 S4) fun r5 =>
  pq (extA r4 1 S4) fun r6 =>
  pe (callS run 157 [a0, r2, r5, a4] S4) fun r7 S7 =>
  pq (extA r7 0 S7) fun r8 =>
  pq (extA r7 1 S7) fun r9 =>
  some (r9, S7)
theorem t154 (N d : Nat) (a0 a1 a2 a3 a4 : AV) (S : St) : R N (d + 1) 154 [a0, a1, a2, a3, a4] S = b154 (cfg N) (R N d) a0 a1 a2 a3 a4 S := by unfold R; kernel_rfl
/- slices.medianAdjacentOrdered[int64] -/
noncomputable def b153 (C : Cfg) (run : FuncId → List AV → St → Option (AV × St)) (a0 a1 a2 : AV) (S : St) : Option (AV × St) :=
  pk (abin Try.prog .sub 3 a1 (AV.int .i64 1)) S fun r1 =>
  pk (abin Try.prog .add 3 a1 (AV.int .i64 1)) S fun r2 =>
  pe (callS run 154 [a0, r1, a1, r2, a2] S) fun r3 S3 =>
  some (r3, S3)
theorem t153 (N d : Nat) (a0 a1 a2 : AV) (S : St) : R N (d + 1) 153 [a0, a1, a2] S = b153 (cfg N) (R N d) a0 a1 a2 S := by unfold R; kernel_rfl
/- slices.choosePivotOrdered[int64] -/
noncomputable def b141 (C : Cfg) (run : FuncId → List AV → St → Option (AV × St)) (a0 a1 a2 : AV) (S : St) : Option (AV × St) :=
  pk (bin2 Try.prog .sub 3 a2 a1) S fun r1 =>
  pe (some (newBox S [AV.int .i64 0])) fun r2 S2 =>
  pk (abin Try.prog .quo 3 r1 (AV.int .i64 4)) S2 fun r3 =>
  pk (abin Try.prog .mul 3 r3 (AV.int .i64 1)) S2 fun r4 =>
  pk (bin2 Try.prog .add 3 a1 r4) S2 fun r5 =>
  pk (abin Try.prog .quo 3 r1 (AV.int .i64 4)) S2 fun r6 =>
  pk (abin Try.prog .mul 3 r6 (AV.int .i64 2)) S2 fun r7 =>
  pk (bin2 Try.prog .add 3 a1 r7) S2 fun r8 =>
  pk (abin Try.prog .quo 3 r1 (AV.int .i64 4)) S2 fun r9 =>
  pk (abin Try.prog .mul 3 r9 (AV.int .i64 3)) S2 fun r10 =>
  pk (bin2 Try.prog .add 3 a1 r10) S2 fun r11 =>
  (pk (abin Try.prog .geq 3 r1 (AV.int .i64 8)) S2 fun r12 =>
  ifA r12
  ((pk (abin Try.prog .geq 3 r1 (AV.int .i64 50)) S2 fun r13 =>
  ifA r13
  (pe (callS run 153 [a0, r5, r2] S2) fun r14 S14 =>
  pe (callS run 153 [a0, r8, r2] S14) fun r15 S15 =>
  pe (callS run 153 [a0, r11, r2] S15) fun r16 S16 =>
  some (AOut.norm [r14, r15, r16] S16))
  (some (AOut.norm [r5, r8, r11] S2))).bind fun
  | AOut.norm l17 S17 => (pe (callS run 154 [a0, (l17.getD 0 .non), (l17.getD 1 .non), (l17.getD 2 .non), r2] S17) fun r18 S18 =>
  some (AOut.norm [r18] S18))
  | AOut.exit x17 l17 S17 => (some (AOut.exit x17 [(l17.getD 1 .non)] S17))
  | AOut.ret l17 S17 => (some (AOut.ret [(l17.getD 1 .non)] S17)))
  (some (AOut.norm [r8] S2))).bind fun
  | AOut.norm l19 S19 => (pk (ld1 S19 r2) S19 fun r20 =>
  pk (abin Try.prog .eql 3 r20 (AV.int .i64 0)) S19 fun r21 =>
  ifA r21
  (some (AV.tup [(l19.getD 0 .non), AV.int .i64 1], S19))
  (pk (abin Try.prog .eql 3 r20 (AV.int .i64 12)) S19 fun r22 =>
  ifA r22
  (some (AV.tup [(l19.getD 0 .non), AV.int .i64 2], S19))
  (some (AV.tup [(l19.getD 0 .non), AV.int .i64 0], S19))))
  | AOut.exit x19 l19 S19 => (none)
  | AOut.ret l19 S19 => (some (AV.tup [AV.int .i64 0, AV.int .i64 0], S19))
theorem t141 (N d : Nat) (a0 a1 a2 : AV) (S : St) : R N (d + 1) 141 [a0, a1, a2] S = b141 (cfg N) (R N d) a0 a1 a2 S := by unfold R; kernel_rfl
/- slices.reverseRangeOrdered[int64] -/
noncomputable def s142_0 (C : Cfg) (run : FuncId → List AV → St → Option (AV × St)) (a0 : AV) (l : List AV) (S : St) : Option AOut :=
  pk (bin2 Try.prog .lss 3 ((l.getD 0 .non)) ((l.getD 1 .non))) S fun r2 =>
  ifA r2
  (pk (pindex 1 a0 ((l.getD 1 .non)) S) S fun r3 =>
  pk (ld1 S r3) S fun r4 =>
  pk (pindex 1 a0 ((l.getD 0 .non)) S) S fun r5 =>
  pk (ld1 S r5) S fun r6 =>
  pk (pindex 1 a0 ((l.getD 0 .non)) S) S fun r7 =>
  pe (storeA 1 r7 r4 S) fun r8 S8 =>
  pk (pindex 1 a0 ((l.getD 1 .non)) S8) S8 fun r9 =>
  pe (storeA 1 r9 r6 S8) fun r10 S10 =>
  pk (abin Try.prog .add 3 ((l.getD 0 .non)) (AV.int .i64 1)) S10 fun r11 =>
  pk (abin Try.prog .sub 3 ((l.getD 1 .non)) (AV.int .i64 1)) S10 fun r12 =>
  some (AOut.norm [r11, r12] S10))
  (some (AOut.exit 0 [(l.getD 0 .non), (l.getD 1 .non)] S))
noncomputable def b142 (C : Cfg) (run : FuncId → List AV → St → Option (AV × St)) (a0 a1 a2 : AV) (S : St) : Option (AV × St) :=
  pk (abin Try.prog .sub 3 a2 (AV.int .i64 1)) S fun r1 =>
  (aloop (s142_0 C run a0) C.N [a1, r1] S).bind fun
  | AOut.norm _ _ => (none)
  | AOut.exit x13 l13 S13 => (if x13 = 0 then (some (und, S13)) else (none))
  | AOut.ret l13 S13 => (some (und, S13))
theorem t142 (N d : Nat) (a0 a1 a2 : AV) (S : St) : R N (d + 1) 142 [a0, a1, a2] S = b142 (cfg N) (R N d) a0 a1 a2 S := by unfold R; kernel_rfl
/- slices.partialInsertionSortOrdered[int64] -/
noncomputable def s143_0 (C : Cfg) (run : FuncId → List AV → St → Option (AV × St)) (a0 : AV) (a2 : AV) (l3 : List AV) (S : St) : Option AOut :=
  ((pk (bin2 Try.prog .lss 3 ((l3.getD 0 .non)) a2) S fun r4 =>
  guardA r4 true
  (pk (pindex 1 a0 ((l3.getD 0 .non)) S) S fun r5 =>
  pk (ld1 S r5) S fun r6 =>
  pk (abin Try.prog .sub 3 ((l3.getD 0 .non)) (AV.int .i64 1)) S fun r7 =>
  pk (pindex 1 a0 r7 S) S fun r8 =>
  pk (ld1 S r8) S fun r9 =>
  pq (call0 run 144 [r6, r9] S) fun r10 =>
  pk (aun .not r10) S fun r11 =>
  some (AOut.norm [r11] S))
  (some (AOut.norm [AV.bool false] S))).bind fun
  | AOut.norm l12 S12 => (ifA ((l12.getD 0 .non))
  (some (AOut.norm [(l12.getD 0 .non)] S12))
  (some (AOut.exit 2 [(l12.getD 0 .non)] S12)))
  | AOut.exit x12 l12 S12 => (some (AOut.exit x12 [(l12.getD 0 .non)] S12))
  | AOut.ret l12 S12 => (some (AOut.ret [(l12.getD 0 .non)] S12))).bind fun
  | AOut.norm l13 S13 => (pk (abin Try.prog .add 3 ((l3.getD 0 .non)) (AV.int .i64 1)) S13 fun r14 =>
  some (AOut.norm [r14] S13))
  | AOut.exit x13 l13 S13 => (some (AOut.exit x13 [(l3.getD 0 .non)] S13))
  | AOut.ret l13 S13 => (some (AOut.ret [(l3.getD 0 .non)] S13))
noncomputable def s143_1 (C : Cfg) (run : FuncId → List AV → St → Option (AV × St)) (a0 : AV) (l32 : List AV) (S : St) : Option AOut :=
  pk (abin Try.prog .geq 3 ((l32.getD 0 .non)) (AV.int .i64 1)) S fun r33 =>
  ifA r33
  (pk (pindex 1 a0 ((l32.getD 0 .non)) S) S fun r34 =>
  pk (ld1 S r34) S fun r35 =>
  pk (abin Try.prog .sub 3 ((l32.getD 0 .non)) (AV.int .i64 1)) S fun r36 =>
  pk (pindex 1 a0 r36 S) S fun r37 =>
  pk (ld1 S r37) S fun r38 =>
  pq (call0 run 144 [r35, r38] S) fun r39 =>
  pk (aun .not r39) S fun r40 =>
  ifA r40
  (some (AOut.exit 4 [(l32.getD 0 .non)] S))
  (pk (abin Try.prog .sub 3 ((l32.getD 0 .non)) (AV.int .i64 1)) S fun r41 =>
  pk (abin Try.prog .sub 3 ((l32.getD 0 .non)) (AV.int .i64 1)) S fun r42 =>
  pk (pindex 1 a0 r42 S) S fun r43 =>
  pk (ld1 S r43) S fun r44 =>
  pk (pindex 1 a0 ((l32.getD 0 .non)) S) S fun r45 =>
  pk (ld1 S r45) S fun r46 =>
  pk (pindex 1 a0 ((l32.getD 0 .non)) S) S fun r47 =>
  pe (storeA 1 r47 r44 S) fun r48 S48 =>
  pk (pindex 1 a0 r41 S48) S48 fun r49 =>
  pe (storeA 1 r49 r46 S48) fun r50 S50 =>
  pk (abin Try.prog .sub 3 ((l32.getD 0 .non)) (AV.int .i64 1)) S50 fun r51 =>
  some (AOut.norm [r51] S50)))
  (some (AOut.exit 4 [(l32.getD 0 .non)] S))
noncomputable def s143_2 (C : Cfg) (run : FuncId → List AV → St → Option (AV × St)) (a0 : AV) (a2 : AV) (l57 : List AV) (S : St) : Option AOut :=
  pk (bin2 Try.prog .lss 3 ((l57.getD 0 .non)) a2) S fun r58 =>
  ifA r58
  (pk (pindex 1 a0 ((l57.getD 0 .non)) S) S fun r59 =>
  pk (ld1 S r59) S fun r60 =>
  pk (abin Try.prog .sub 3 ((l57.getD 0 .non)) (AV.int .i64 1)) S fun r61 =>
  pk (pindex 1 a0 r61 S) S fun r62 =>
  pk (ld1 S r62) S fun r63 =>
  pq (call0 run 144 [r60, r63] S) fun r64 =>
  pk (aun .not r64) S fun r65 =>
  ifA r65
  (some (AOut.exit 6 [(l57.getD 0 .non)] S))
  (pk (abin Try.prog .sub 3 ((l57.getD 0 .non)) (AV.int .i64 1)) S fun r66 =>
  pk (abin Try.prog .sub 3 ((l57.getD 0 .non)) (AV.int .i64 1)) S fun r67 =>
  pk (pindex 1 a0 r67 S) S fun r68 =>
  pk (ld1 S r68) S fun r69 =>
  pk (pindex 1 a0 ((l57.getD 0 .non)) S) S fun r70 =>
  pk (ld1 S r70) S fun r71 =>
  pk (pindex 1 a0 ((l57.getD 0 .non)) S) S fun r72 =>
  pe (storeA 1 r72 r69 S) fun r73 S73 =>
  pk (pindex 1 a0 r66 S73) S73 fun r74 =>
  pe (storeA 1 r74 r71 S73) fun r75 S75 =>
  pk (abin Try.prog .add 3 ((l57.getD 0 .non)) (AV.int .i64 1)) S75 fun r76 =>
  some (AOut.norm [r76] S75)))
  (some (AOut.exit 6 [(l57.getD 0 .non)] S))
noncomputable def s143_3 (C : Cfg) (run : FuncId → List AV → St → Option (AV × St)) (a0 : AV) (a1 : AV) (a2 : AV) (l : List AV) (S : St) : Option AOut :=
  pk (abin Try.prog .lss 3 ((l.getD 2 .non)) (AV.int .i64 5)) S fun r2 =>
  ifA r2
  (((aloop (s143_0 C run a0 a2) C.N [(l.getD 1 .non)] S).bind fun
  | AOut.norm _ _ => (none)
  | AOut.exit x15 l15 S15 => (if x15 = 2 then (pk (bin2 Try.prog .eql 3 ((l15.getD 0 .non)) a2) S15 fun r16 =>
  ifA r16
  (some (AOut.ret [AV.bool true, (l15.getD 0 .non)] S15))
  (pk (bin2 Try.prog .sub 3 a2 a1) S15 fun r17 =>
  pk (abin Try.prog .lss 3 r17 (AV.int .i64 50)) S15 fun r18 =>
  ifA r18
  (some (AOut.ret [AV.bool false, (l15.getD 0 .non)] S15))
  (pk (abin Try.prog .sub 3 ((l15.getD 0 .non)) (AV.int .i64 1)) S15 fun r19 =>
  pk (abin Try.prog .sub 3 ((l15.getD 0 .non)) (AV.int .i64 1)) S15 fun r20 =>
  pk (pindex 1 a0 r20 S15) S15 fun r21 =>
  pk (ld1 S15 r21) S15 fun r22 =>
  pk (pindex 1 a0 ((l15.getD 0 .non)) S15) S15 fun r23 =>
  pk (ld1 S15 r23) S15 fun r24 =>
  pk (pindex 1 a0 ((l15.getD 0 .non)) S15) S15 fun r25 =>
  pe (storeA 1 r25 r22 S15) fun r26 S26 =>
  pk (pindex 1 a0 r19 S26) S26 fun r27 =>
  pe (storeA 1 r27 r24 S26) fun r28 S28 =>
  (pk (bin2 Try.prog .sub 3 ((l15.getD 0 .non)) a1) S28 fun r29 =>
  pk (abin Try.prog .geq 3 r29 (AV.int .i64 2)) S28 fun r30 =>
  ifA r30
  (pk (abin Try.prog .sub 3 ((l15.getD 0 .non)) (AV.int .i64 1)) S28 fun r31 =>
  (aloop (s143_1 C run a0) C.N [r31] S28).bind fun
  | AOut.norm _ _ => (none)
  | AOut.exit x52 l52 S52 => (if x52 = 4 then (some (AOut.norm [] S52)) else (some (AOut.exit x52 [] S52)))
  | AOut.ret l52 S52 => (some (AOut.ret [] S52)))
  (some (AOut.norm [] S28))).bind fun
  | AOut.norm l53 S53 => (pk (bin2 Try.prog .sub 3 a2 ((l15.getD 0 .non))) S53 fun r54 =>
  pk (abin Try.prog .geq 3 r54 (AV.int .i64 2)) S53 fun r55 =>
  ifA r55
  (pk (abin Try.prog .add 3 ((l15.getD 0 .non)) (AV.int .i64 1)) S53 fun r56 =>
  (aloop (s143_2 C run a0 a2) C.N [r56] S53).bind fun
  | AOut.norm _ _ => (none)
  | AOut.exit x77 l77 S77 => (if x77 = 6 then (some (AOut.norm [(l.getD 0 .non), (l15.getD 0 .non)] S77)) else (if x77 = 1 then (some (AOut.norm [(l.getD 0 .non), (l15.getD 0 .non)] S77)) else (some (AOut.exit x77 [(l.getD 0 .non), (l15.getD 0 .non)] S77))))
  | AOut.ret l77 S77 => (some (AOut.ret [(l.getD 0 .non), (l15.getD 0 .non)] S77)))
  (some (AOut.norm [(l.getD 0 .non), (l15.getD 0 .non)] S53)))
  | AOut.exit x53 l53 S53 => (if x53 = 1 then (some (AOut.norm [(l.getD 0 .non), (l15.getD 0 .non)] S53)) else (some (AOut.exit x53 [(l.getD 0 .non), (l15.getD 0 .non)] S53)))
  | AOut.ret l53 S53 => (some (AOut.ret [(l.getD 0 .non), (l15.getD 0 .non)] S53))))) else (if x15 = 1 then (some (AOut.norm [(l.getD 0 .non), (l15.getD 0 .non)] S15)) else (some (AOut.exit x15 [(l.getD 0 .non), (l15.getD 0 .non)] S15))))
  | AOut.ret l15 S15 => (some (AOut.ret [(l.getD 0 .non), (l15.getD 0 .non)] S15))).bind fun
  | AOut.norm l78 S78 => (pk (abin Try.prog .add 3 ((l.getD 2 .non)) (AV.int .i64 1)) S78 fun r79 =>
  some (AOut.norm [(l78.getD 0 .non), (l78.getD 1 .non), r79] S78))
  | AOut.exit x78 l78 S78 => (some (AOut.exit x78 [(l78.getD 0 .non), (l78.getD 1 .non), (l.getD 2 .non)] S78))
  | AOut.ret l78 S78 => (some (AOut.ret [(l78.getD 0 .non), (l78.getD 1 .non), (l.getD 2 .non)] S78)))
  (some (AOut.exit 0 [(l.getD 0 .non), (l.getD 1 .non), (l.getD 2 .non)] S))
noncomputable def b143 (C : Cfg) (run : FuncId → List AV → St → Option (AV × St)) (a0 a1 a2 : AV) (S : St) : Option (AV × St) :=
  pk (abin Try.prog .add 3 a1 (AV.int .i64 1)) S fun r1 =>
  (aloop (s143_3 C run a0 a1 a2) C.N [AV.bool false, r1, AV.int .i64 0] S).bind fun
  | AOut.norm _ _ => (none)
  | AOut.exit x80 l80 S80 => (if x80 = 0 then (some (AV.bool false, S80)) else (none))
  | AOut.ret l80 S80 => (some ((l80.getD 0 .non), S80))
theorem t143 (N d : Nat) (a0 a1 a2 : AV) (S : St) : R N (d + 1) 143 [a0, a1, a2] S = b143 (cfg N) (R N d) a0 a1 a2 S := by unfold R; kernel_rfl
/- slices.partitionEqualOrdered[int64] -/
noncomputable def s145_0 (C : Cfg) (run : FuncId → List AV → St → Option (AV × St)) (a0 : AV) (a1 : AV) (l : List AV) (l11 : List AV) (S : St) : Option AOut :=
  ((pk (bin2 Try.prog .leq 3 ((l11.getD 0 .non)) ((l.getD 1 .non))) S fun r12 =>
  guardA r12 true
  (pk (pindex 1 a0 a1 S) S fun r13 =>
  pk (ld1 S r13) S fun r14 =>
  pk (pindex 1 a0 ((l11.getD 0 .non)) S) S fun r15 =>
  pk (ld1 S r15) S fun r16 =>
  pq (call0 run 144 [r14, r16] S) fun r17 =>
  pk (aun .not r17) S fun r18 =>
  some (AOut.norm [r18] S))
  (some (AOut.norm [AV.bool false] S))).bind fun
  | AOut.norm l19 S19 => (ifA ((l19.getD 0 .non))
  (some (AOut.norm [(l19.getD 0 .non)] S19))
  (some (AOut.exit 2 [(l19.getD 0 .non)] S19)))
  | AOut.exit x19 l19 S19 => (some (AOut.exit x19 [(l19.getD 0 .non)] S19))
  | AOut.ret l19 S19 => (some (AOut.ret [(l19.getD 0 .non)] S19))).bind fun
  | AOut.norm l20 S20 => (pk (abin Try.prog .add 3 ((l11.getD 0 .non)) (AV.int .i64 1)) S20 fun r21 =>
  some (AOut.norm [r21] S20))
  | AOut.exit x20 l20 S20 => (some (AOut.exit x20 [(l11.getD 0 .non)] S20))
  | AOut.ret l20 S20 => (some (AOut.ret [(l11.getD 0 .non)] S20))
noncomputable def s145_1 (C : Cfg) (run : FuncId → List AV → St → Option (AV × St)) (a0 : AV) (a1 : AV) (l22 : List AV) (l23 : List AV) (S : St) : Option AOut :=
  ((pk (bin2 Try.prog .leq 3 ((l22.getD 0 .non)) ((l23.getD 0 .non))) S fun r24 =>
  guardA r24 true
  (pk (pindex 1 a0 a1 S) S fun r25 =>
  pk (ld1 S r25) S fun r26 =>
  pk (pindex 1 a0 ((l23.getD 0 .non)) S) S fun r27 =>
  pk (ld1 S r27) S fun r28 =>
  pq (call0 run 144 [r26, r28] S) fun r29 =>
  some (AOut.norm [r29] S))
  (some (AOut.norm [AV.bool false] S))).bind fun
  | AOut.norm l30 S30 => (ifA ((l30.getD 0 .non))
  (some (AOut.norm [(l30.getD 0 .non)] S30))
  (some (AOut.exit 4 [(l30.getD 0 .non)] S30)))
  | AOut.exit x30 l30 S30 => (some (AOut.exit x30 [(l30.getD 0 .non)] S30))
  | AOut.ret l30 S30 => (some (AOut.ret [(l30.getD 0 .non)] S30))).bind fun
  | AOut.norm l31 S31 => (pk (abin Try.prog .sub 3 ((l23.getD 0 .non)) (AV.int .i64 1)) S31 fun r32 =>
  some (AOut.norm [r32] S31))
  | AOut.exit x31 l31 S31 => (some (AOut.exit x31 [(l23.getD 0 .non)] S31))
  | AOut.ret l31 S31 => (some (AOut.ret [(l23.getD 0 .non)] S31))
noncomputable def s145_2 (C : Cfg) (run : FuncId → List AV → St → Option (AV × St)) (a0 : AV) (a1 : AV) (l : List AV) (S : St) : Option AOut :=
  (aloop (s145_0 C run a0 a1 l) C.N [(l.getD 0 .non)] S).bind fun
  | AOut.norm _ _ => (none)
  | AOut.exit x22 l22 S22 => (if x22 = 2 then ((aloop (s145_1 C run a0 a1 l22) C.N [(l.getD 1 .non)] S22).bind fun
  | AOut.norm _ _ => (none)
  | AOut.exit x33 l33 S33 => (if x33 = 4 then (pk (bin2 Try.prog .gtr 3 ((l22.getD 0 .non)) ((l33.getD 0 .non))) S33 fun r34 =>
  ifA r34
  (some (AOut.exit 0 [(l22.getD 0 .non), (l33.getD 0 .non)] S33))
  (pk (pindex 1 a0 ((l33.getD 0 .non)) S33) S33 fun r35 =>
  pk (ld1 S33 r35) S33 fun r36 =>
  pk (pindex 1 a0 ((l22.getD 0 .non)) S33) S33 fun r37 =>
  pk (ld1 S33 r37) S33 fun r38 =>
  pk (pindex 1 a0 ((l22.getD 0 .non)) S33) S33 fun r39 =>
  pe (storeA 1 r39 r36 S33) fun r40 S40 =>
  pk (pindex 1 a0 ((l33.getD 0 .non)) S40) S40 fun r41 =>
  pe (storeA 1 r41 r38 S40) fun r42 S42 =>
  pk (abin Try.prog .add 3 ((l22.getD 0 .non)) (AV.int .i64 1)) S42 fun r43 =>
  pk (abin Try.prog .sub 3 ((l33.getD 0 .non)) (AV.int .i64 1)) S42 fun r44 =>
  some (AOut.norm [r43, r44] S42))) else (if x33 = 1 then (some (AOut.norm [(l22.getD 0 .non), (l33.getD 0 .non)] S33)) else (some (AOut.exit x33 [(l22.getD 0 .non), (l33.getD 0 .non)] S33))))
  | AOut.ret l33 S33 => (some (AOut.ret [(l22.getD 0 .non), (l33.getD 0 .non)] S33))) else (if x22 = 1 then (some (AOut.norm [(l22.getD 0 .non), (l.getD 1 .non)] S22)) else (some (AOut.exit x22 [(l22.getD 0 .non), (l.getD 1 .non)] S22))))
  | AOut.ret l22 S22 => (some (AOut.ret [(l22.getD 0 .non), (l.getD 1 .non)] S22))
noncomputable def b145 (C : Cfg) (run : FuncId → List AV → St → Option (AV × St)) (a0 a1 a2 a3 : AV) (S : St) : Option (AV × St) :=
  pk (pindex 1 a0 a3 S) S fun r1 =>
  pk (ld1 S r1) S fun r2 =>
  pk (pindex 1 a0 a1 S) S fun r3 =>
  pk (ld1 S r3) S fun r4 =>
  pk (pindex 1 a0 a1 S) S fun r5 =>
  pe (storeA 1 r5 r2 S) fun r6 S6 =>
  pk (pindex 1 a0 a3 S6) S6 fun r7 =>
  pe (storeA 1 r7 r4 S6) fun r8 S8 =>
  pk (abin Try.prog .add 3 a1 (AV.int .i64 1)) S8 fun r9 =>
  pk (abin Try.prog .sub 3 a2 (AV.int .i64 1)) S8 fun r10 =>
  (aloop (s145_2 C run a0 a1) C.N [r9, r10] S8).bind fun
  | AOut.norm _ _ => (none)
  | AOut.exit x45 l45 S45 => (if x45 = 0 then (some ((l45.getD 0 .non), S45)) else (none))
  | AOut.ret l45 S45 => (some (AV.int .i64 0, S45))
theorem t145 (N d : Nat) (a0 a1 a2 a3 : AV) (S : St) : R N (d + 1) 145 [a0, a1, a2, a3] S = b145 (cfg N) (R N d) a0 a1 a2 a3 S := by unfold R; kernel_rfl
/- slices.partitionOrdered[int64] -/
noncomputable def s146_0 (C : Cfg) (run : FuncId → List AV → St → Option (AV × St)) (a0 : AV) (a1 : AV) (r10 : AV) (l : List AV) (S : St) : Option AOut :=
  ((pk (bin2 Try.prog .leq 3 ((l.getD 0 .non)) r10) S fun r11 =>
  guardA r11 true
  (pk (pindex 1 a0 ((l.getD 0 .non)) S) S fun r12 =>
  pk (ld1 S r12) S fun r13 =>
  pk (pindex 1 a0 a1 S) S fun r14 =>
  pk (ld1 S r14) S fun r15 =>
  pq (call0 run 144 [r13, r15] S) fun r16 =>
  some (AOut.norm [r16] S))
  (some (AOut.norm [AV.bool false] S))).bind fun
  | AOut.norm l17 S17 => (ifA ((l17.getD 0 .non))
  (some (AOut.norm [(l17.getD 0 .non)] S17))
  (some (AOut.exit 0 [(l17.getD 0 .non)] S17)))
  | AOut.exit x17 l17 S17 => (some (AOut.exit x17 [(l17.getD 0 .non)] S17))
  | AOut.ret l17 S17 => (some (AOut.ret [(l17.getD 0 .non)] S17))).bind fun
  | AOut.norm l18 S18 => (pk (abin Try.prog .add 3 ((l.getD 0 .non)) (AV.int .i64 1)) S18 fun r19 =>
  some (AOut.norm [r19] S18))
  | AOut.exit x18 l18 S18 => (some (AOut.exit x18 [(l.getD 0 .non)] S18))
  | AOut.ret l18 S18 => (some (AOut.ret [(l.getD 0 .non)] S18))
noncomputable def s146_1 (C : Cfg) (run : FuncId → List AV → St → Option (AV × St)) (a0 : AV) (a1 : AV) (l20 : List AV) (l : List AV) (S : St) : Option AOut :=
  ((pk (bin2 Try.prog .leq 3 ((l20.getD 0 .non)) ((l.getD 0 .non))) S fun r21 =>
  guardA r21 true
  (pk (pindex 1 a0 ((l.getD 0 .non)) S) S fun r22 =>
  pk (ld1 S r22) S fun r23 =>
  pk (pindex 1 a0 a1 S) S fun r24 =>
  pk (ld1 S r24) S fun r25 =>
  pq (call0 run 144 [r23, r25] S) fun r26 =>
  pk (aun .not r26) S fun r27 =>
  some (AOut.norm [r27] S))
  (some (AOut.norm [AV.bool false] S))).bind fun
  | AOut.norm l28 S28 => (ifA ((l28.getD 0 .non))
  (some (AOut.norm [(l28.getD 0 .non)] S28))
  (some (AOut.exit 2 [(l28.getD 0 .non)] S28)))
  | AOut.exit x28 l28 S28 => (some (AOut.exit x28 [(l28.getD 0 .non)] S28))
  | AOut.ret l28 S28 => (some (AOut.ret [(l28.getD 0 .non)] S28))).bind fun
  | AOut.norm l29 S29 => (pk (abin Try.prog .sub 3 ((l.getD 0 .non)) (AV.int .i64 1)) S29 fun r30 =>
  some (AOut.norm [r30] S29))
  | AOut.exit x29 l29 S29 => (some (AOut.exit x29 [(l.getD 0 .non)] S29))
  | AOut.ret l29 S29 => (some (AOut.ret [(l.getD 0 .non)] S29))
noncomputable def s146_2 (C : Cfg) (run : FuncId → List AV → St → Option (AV × St)) (a0 : AV) (a1 : AV) (l : List AV) (l51 : List AV) (S : St) : Option AOut :=
  ((pk (bin2 Try.prog .leq 3 ((l51.getD 0 .non)) ((l.getD 1 .non))) S fun r52 =>
  guardA r52 true
  (pk (pindex 1 a0 ((l51.getD 0 .non)) S) S fun r53 =>
  pk (ld1 S r53) S fun r54 =>
  pk (pindex 1 a0 a1 S) S fun r55 =>
  pk (ld1 S r55) S fun r56 =>
  pq (call0 run 144 [r54, r56] S) fun r57 =>
  some (AOut.norm [r57] S))
  (some (AOut.norm [AV.bool false] S))).bind fun
  | AOut.norm l58 S58 => (ifA ((l58.getD 0 .non))
  (some (AOut.norm [(l58.getD 0 .non)] S58))
  (some (AOut.exit 6 [(l58.getD 0 .non)] S58)))
  | AOut.exit x58 l58 S58 => (some (AOut.exit x58 [(l58.getD 0 .non)] S58))
  | AOut.ret l58 S58 => (some (AOut.ret [(l58.getD 0 .non)] S58))).bind fun
  | AOut.norm l59 S59 => (pk (abin Try.prog .add 3 ((l51.getD 0 .non)) (AV.int .i64 1)) S59 fun r60 =>
  some (AOut.norm [r60] S59))
  | AOut.exit x59 l59 S59 => (some (AOut.exit x59 [(l51.getD 0 .non)] S59))
  | AOut.ret l59 S59 => (some (AOut.ret [(l51.getD 0 .non)] S59))
noncomputable def s146_3 (C : Cfg) (run : FuncId → List AV → St → Option (AV × St)) (a0 : AV) (a1 : AV) (l61 : List AV) (l62 : List AV) (S : St) : Option AOut :=
  ((pk (bin2 Try.prog .leq 3 ((l61.getD 0 .non)) ((l62.getD 0 .non))) S fun r63 =>
  guardA r63 true
  (pk (pindex 1 a0 ((l62.getD 0 .non)) S) S fun r64 =>
  pk (ld1 S r64) S fun r65 =>
  pk (pindex 1 a0 a1 S) S fun r66 =>
  pk (ld1 S r66) S fun r67 =>
  pq (call0 run 144 [r65, r67] S) fun r68 =>
  pk (aun .not r68) S fun r69 =>
  some (AOut.norm [r69] S))
  (some (AOut.norm [AV.bool false] S))).bind fun
  | AOut.norm l70 S70 => (ifA ((l70.getD 0 .non))
  (some (AOut.norm [(l70.getD 0 .non)] S70))
  (some (AOut.exit 8 [(l70.getD 0 .non)] S70)))
  | AOut.exit x70 l70 S70 => (some (AOut.exit x70 [(l70.getD 0 .non)] S70))
  | AOut.ret l70 S70 => (some (AOut.ret [(l70.getD 0 .non)] S70))).bind fun
  | AOut.norm l71 S71 => (pk (abin Try.prog .sub 3 ((l62.getD 0 .non)) (AV.int .i64 1)) S71 fun r72 =>
  some (AOut.norm [r72] S71))
  | AOut.exit x71 l71 S71 => (some (AOut.exit x71 [(l62.getD 0 .non)] S71))
  | AOut.ret l71 S71 => (some (AOut.ret [(l62.getD 0 .non)] S71))
noncomputable def s146_4 (C : Cfg) (run : FuncId → List AV → St → Option (AV × St)) (a0 : AV) (a1 : AV) (l : List AV) (S : St) : Option AOut :=
  (aloop (s146_2 C run a0 a1 l) C.N [(l.getD 0 .non)] S).bind fun
  | AOut.norm _ _ => (none)
  | AOut.exit x61 l61 S61 => (if x61 = 6 then ((aloop (s146_3 C run a0 a1 l61) C.N [(l.getD 1 .non)] S61).bind fun
  | AOut.norm _ _ => (none)
  | AOut.exit x73 l73 S73 => (if x73 = 8 then (pk (bin2 Try.prog .gtr 3 ((l61.getD 0 .non)) ((l73.getD 0 .non))) S73 fun r74 =>
  ifA r74
  (some (AOut.exit 4 [(l61.getD 0 .non), (l73.getD 0 .non)] S73))
  (pk (pindex 1 a0 ((l73.getD 0 .non)) S73) S73 fun r75 =>
  pk (ld1 S73 r75) S73 fun r76 =>
  pk (pindex 1 a0 ((l61.getD 0 .non)) S73) S73 fun r77 =>
  pk (ld1 S73 r77) S73 fun r78 =>
  pk (pindex 1 a0 ((l61.getD 0 .non)) S73) S73 fun r79 =>
  pe (storeA 1 r79 r76 S73) fun r80 S80 =>
  pk (pindex 1 a0 ((l73.getD 0 .non)) S80) S80 fun r81 =>
  pe (storeA 1 r81 r78 S80) fun r82 S82 =>
  pk (abin Try.prog .add 3 ((l61.getD 0 .non)) (AV.int .i64 1)) S82 fun r83 =>
  pk (abin Try.prog .sub 3 ((l73.getD 0 .non)) (AV.int .i64 1)) S82 fun r84 =>
  some (AOut.norm [r83, r84] S82))) else (if x73 = 5 then (some (AOut.norm [(l61.getD 0 .non), (l73.getD 0 .non)] S73)) else (some (AOut.exit x73 [(l61.getD 0 .non), (l73.getD 0 .non)] S73))))
  | AOut.ret l73 S73 => (some (AOut.ret [(l61.getD 0 .non), (l73.getD 0 .non)] S73))) else (if x61 = 5 then (some (AOut.norm [(l61.getD 0 .non), (l.getD 1 .non)] S61)) else (some (AOut.exit x61 [(l61.getD 0 .non), (l.getD 1 .non)] S61))))
  | AOut.ret l61 S61 => (some (AOut.ret [(l61.getD 0 .non), (l.getD 1 .non)] S61))
noncomputable def b146 (C : Cfg) (run : FuncId → List AV → St → Option (AV × St)) (a0 a1 a2 a3 : AV) (S : St) : Option (AV × St) :=
  pk (pindex 1 a0 a3 S) S fun r1 =>
  pk (ld1 S r1) S fun r2 =>
  pk (pindex 1 a0 a1 S) S fun r3 =>
  pk (ld1 S r3) S fun r4 =>
  pk (pindex 1 a0 a1 S) S fun r5 =>
  pe (storeA 1 r5 r2 S) fun r6 S6 =>
  pk (pindex 1 a0 a3 S6) S6 fun r7 =>
  pe (storeA 1 r7 r4 S6) fun r8 S8 =>
  pk (abin Try.prog .add 3 a1 (AV.int .i64 1)) S8 fun r9 =>
  pk (abin Try.prog .sub 3 a2 (AV.int .i64 1)) S8 fun r10 =>
  (aloop (s146_0 C run a0 a1 r10) C.N [r9] S8).bind fun
  | AOut.norm _ _ => (none)
  | AOut.exit x20 l20 S20 => (if x20 = 0 then ((aloop (s146_1 C run a0 a1 l20) C.N [r10] S20).bind fun
  | AOut.norm _ _ => (none)
  | AOut.exit x31 l31 S31 => (if x31 = 2 then (pk (bin2 Try.prog .gtr 3 ((l20.getD 0 .non)) ((l31.getD 0 .non))) S31 fun r32 =>
  ifA r32
  (pk (pindex 1 a0 a1 S31) S31 fun r33 =>
  pk (ld1 S31 r33) S31 fun r34 =>
  pk (pindex 1 a0 ((l31.getD 0 .non)) S31) S31 fun r35 =>
  pk (ld1 S31 r35) S31 fun r36 =>
  pk (pindex 1 a0 ((l31.getD 0 .non)) S31) S31 fun r37 =>
  pe (storeA 1 r37 r34 S31) fun r38 S38 =>
  pk (pindex 1 a0 a1 S38) S38 fun r39 =>
  pe (storeA 1 r39 r36 S38) fun r40 S40 =>
  some (AV.tup [(l31.getD 0 .non), AV.bool true], S40))
  (pk (pindex 1 a0 ((l31.getD 0 .non)) S31) S31 fun r41 =>
  pk (ld1 S31 r41) S31 fun r42 =>
  pk (pindex 1 a0 ((l20.getD 0 .non)) S31) S31 fun r43 =>
  pk (ld1 S31 r43) S31 fun r44 =>
  pk (pindex 1 a0 ((l20.getD 0 .non)) S31) S31 fun r45 =>
  pe (storeA 1 r45 r42 S31) fun r46 S46 =>
  pk (pindex 1 a0 ((l31.getD 0 .non)) S46) S46 fun r47 =>
  pe (storeA 1 r47 r44 S46) fun r48 S48 =>
  pk (abin Try.prog .add 3 ((l20.getD 0 .non)) (AV.int .i64 1)) S48 fun r49 =>
  pk (abin Try.prog .sub 3 ((l31.getD 0 .non)) (AV.int .i64 1)) S48 fun r50 =>
  (aloop (s146_4 C run a0 a1) C.N [r49, r50] S48).bind fun
  | AOut.norm _ _ => (none)
  | AOut.exit x85 l85 S85 => (if x85 = 4 then (pk (pindex 1 a0 a1 S85) S85 fun r86 =>
  pk (ld1 S85 r86) S85 fun r87 =>
  pk (pindex 1 a0 ((l85.getD 1 .non)) S85) S85 fun r88 =>
  pk (ld1 S85 r88) S85 fun r89 =>
  pk (pindex 1 a0 ((l85.getD 1 .non)) S85) S85 fun r90 =>
  pe (storeA 1 r90 r87 S85) fun r91 S91 =>
  pk (pindex 1 a0 a1 S91) S91 fun r92 =>
  pe (storeA 1 r92 r89 S91) fun r93 S93 =>
  some (AV.tup [(l85.getD 1 .non), AV.bool false], S93)) else (none))
  | AOut.ret l85 S85 => (some (AV.tup [AV.int .i64 0, AV.bool false], S85)))) else (none))
  | AOut.ret l31 S31 => (some (AV.tup [AV.int .i64 0, AV.bool false], S31))) else (none))
  | AOut.ret l20 S20 => (some (AV.tup [AV.int .i64 0, AV.bool false], S20))
theorem t146 (N d : Nat) (a0 a1 a2 a3 : AV) (S : St) : R N (d + 1) 146 [a0, a1, a2, a3] S = b146 (cfg N) (R N d) a0 a1 a2 a3 S := by unfold R; kernel_rfl
/- slices.pdqsortOrdered[int64] -/
noncomputable def s129_0 (C : Cfg) (run : FuncId → List AV → St → Option (AV × St)) (a0 : AV) (l : List AV) (S : St) : Option AOut :=
  pk (bin2 Try.prog .sub 3 ((l.getD 1 .non)) ((l.getD 0 .non))) S fun r1 =>
  pk (abin Try.prog .leq 3 r1 (AV.int .i64 12)) S fun r2 =>
  ifA r2
  (pe (callS run 138 [a0, (l.getD 0 .non), (l.getD 1 .non)] S) fun r3 S3 =>
  some (AOut.ret [(l.getD 0 .non), (l.getD 1 .non), (l.getD 2 .non), (l.getD 3 .non), (l.getD 4 .non)] S3))
  (pk (abin Try.prog .eql 3 ((l.getD 2 .non)) (AV.int .i64 0)) S fun r4 =>
  ifA r4
  (pe (callS run 139 [a0, (l.getD 0 .non), (l.getD 1 .non)] S) fun r5 S5 =>
  some (AOut.ret [(l.getD 0 .non), (l.getD 1 .non), (l.getD 2 .non), (l.getD 3 .non), (l.getD 4 .non)] S5))
  ((pk (aun .not ((l.getD 3 .non))) S fun r6 =>
  ifA r6
  (pe (callS run 140 [a0, (l.getD 0 .non), (l.getD 1 .non)] S) fun r7 S7 =>
  pk (abin Try.prog .sub 3 ((l.getD 2 .non)) (AV.int .i64 1)) S7 fun r8 =>
  some (AOut.norm [r8] S7))
  (some (AOut.norm [(l.getD 2 .non)] S))).bind fun
  | AOut.norm l9 S9 => (pq (call0 run 141 [a0, (l.getD 0 .non), (l.getD 1 .non)] S9) fun r10 =>
  pq (extA r10 0 S9) fun r11 =>
  pq (extA r10 1 S9) fun r12 =>
  (pk (abin Try.prog .eql 161 r12 (AV.int .i64 2)) S9 fun r13 =>
  ifA r13
  (pe (callS run 142 [a0, (l.getD 0 .non), (l.getD 1 .non)] S9) fun r14 S14 =>
  pk (abin Try.prog .sub 3 ((l.getD 1 .non)) (AV.int .i64 1)) S14 fun r15 =>
  pk (bin2 Try.prog .sub 3 r11 ((l.getD 0 .non))) S14 fun r16 =>
  pk (bin2 Try.prog .sub 3 r15 r16) S14 fun r17 =>
  some (AOut.norm [r17, AV.int .i64 1] S14))
  (some (AOut.norm [r11, r12] S9))).bind fun
  | AOut.norm l18 S18 => (((guardA ((l.getD 3 .non)) true
  (guardA ((l.getD 4 .non)) true
  (pk (abin Try.prog .eql 161 ((l18.getD 1 .non)) (AV.int .i64 1)) S18 fun r19 =>
  some (AOut.norm [r19] S18))
  (some (AOut.norm [AV.bool false] S18)))
  (some (AOut.norm [AV.bool false] S18))).bind fun
  | AOut.norm l20 S20 => (ifA ((l20.getD 0 .non))
  (pe (callS run 143 [a0, (l.getD 0 .non), (l.getD 1 .non)] S20) fun r21 S21 =>
  ifA r21
  (some (AOut.ret [] S21))
  (some (AOut.norm [] S21)))
  (some (AOut.norm [] S20)))
  | AOut.exit x20 l20 S20 => (some (AOut.exit x20 [] S20))
  | AOut.ret l20 S20 => (some (AOut.ret [] S20))).bind fun
  | AOut.norm l22 S22 => ((pk (abin Try.prog .gtr 3 ((l.getD 0 .non)) (AV.int .i64 0)) S22 fun r23 =>
  guardA r23 true
  (pk (abin Try.prog .sub 3 ((l.getD 0 .non)) (AV.int .i64 1)) S22 fun r24 =>
  pk (pindex 1 a0 r24 S22) S22 fun r25 =>
  pk (ld1 S22 r25) S22 fun r26 =>
  pk (pindex 1 a0 ((l18.getD 0 .non)) S22) S22 fun r27 =>
  pk (ld1 S22 r27) S22 fun r28 =>
  pq (call0 run 144 [r26, r28] S22) fun r29 =>
  pk (aun .not r29) S22 fun r30 =>
  ifA r30
  (pe (callS run 145 [a0, (l.getD 0 .non), (l.getD 1 .non), (l18.getD 0 .non)] S22) fun r31 S31 =>
  some (AOut.exit 1 [r31] S31))
  (some (AOut.norm [(l.getD 0 .non)] S22)))
  (some (AOut.norm [(l.getD 0 .non)] S22))).bind fun
  | AOut.norm l32 S32 => (pe (callS run 146 [a0, (l32.getD 0 .non), (l.getD 1 .non), (l18.getD 0 .non)] S32) fun r33 S33 =>
  pq (extA r33 0 S33) fun r34 =>
  pq (extA r33 1 S33) fun r35 =>
  pk (bin2 Try.prog .sub 3 r34 ((l32.getD 0 .non))) S33 fun r36 =>
  pk (bin2 Try.prog .sub 3 ((l.getD 1 .non)) r34) S33 fun r37 =>
  pk (abin Try.prog .quo 3 r1 (AV.int .i64 8)) S33 fun r38 =>
  pk (bin2 Try.prog .lss 3 r36 r37) S33 fun r39 =>
  ifA r39
  (pk (bin2 Try.prog .geq 3 r36 r38) S33 fun r40 =>
  pe (callS run 129 [a0, (l32.getD 0 .non), r34, (l9.getD 0 .non)] S33) fun r41 S41 =>
  pk (abin Try.prog .add 3 r34 (AV.int .i64 1)) S41 fun r42 =>
  some (AOut.norm [r42, (l.getD 1 .non), (l9.getD 0 .non), r40, r35] S41))
  (pk (bin2 Try.prog .geq 3 r37 r38) S33 fun r43 =>
  pk (abin Try.prog .add 3 r34 (AV.int .i64 1)) S33 fun r44 =>
  pe (callS run 129 [a0, r44, (l.getD 1 .non), (l9.getD 0 .non)] S33) fun r45 S45 =>
  some (AOut.norm [(l32.getD 0 .non), r34, (l9.getD 0 .non), r43, r35] S45)))
  | AOut.exit x32 l32 S32 => (if x32 = 1 then (some (AOut.norm [(l32.getD 0 .non), (l.getD 1 .non), (l9.getD 0 .non), (l.getD 3 .non), (l.getD 4 .non)] S32)) else (some (AOut.exit x32 [(l32.getD 0 .non), (l.getD 1 .non), (l9.getD 0 .non), (l.getD 3 .non), (l.getD 4 .non)] S32)))
  | AOut.ret l32 S32 => (some (AOut.ret [(l32.getD 0 .non), (l.getD 1 .non), (l9.getD 0 .non), (l.getD 3 .non), (l.getD 4 .non)] S32)))
  | AOut.exit x22 l22 S22 => (if x22 = 1 then (some (AOut.norm [(l.getD 0 .non), (l.getD 1 .non), (l9.getD 0 .non), (l.getD 3 .non), (l.getD 4 .non)] S22)) else (some (AOut.exit x22 [(l.getD 0 .non), (l.getD 1 .non), (l9.getD 0 .non), (l.getD 3 .non), (l.getD 4 .non)] S22)))
  | AOut.ret l22 S22 => (some (AOut.ret [(l.getD 0 .non), (l.getD 1 .non), (l9.getD 0 .non), (l.getD 3 .non), (l.getD 4 .non)] S22)))
  | AOut.exit x18 l18 S18 => (if x18 = 1 then (some (AOut.norm [(l.getD 0 .non), (l.getD 1 .non), (l9.getD 0 .non), (l.getD 3 .non), (l.getD 4 .non)] S18)) else (some (AOut.exit x18 [(l.getD 0 .non), (l.getD 1 .non), (l9.getD 0 .non), (l.getD 3 .non), (l.getD 4 .non)] S18)))
  | AOut.ret l18 S18 => (some (AOut.ret [(l.getD 0 .non), (l.getD 1 .non), (l9.getD 0 .non), (l.getD 3 .non), (l.getD 4 .non)] S18)))
  | AOut.exit x9 l9 S9 => (if x9 = 1 then (some (AOut.norm [(l.getD 0 .non), (l.getD 1 .non), (l9.getD 0 .non), (l.getD 3 .non), (l.getD 4 .non)] S9)) else (some (AOut.exit x9 [(l.getD 0 .non), (l.getD 1 .non), (l9.getD 0 .non), (l.getD 3 .non), (l.getD 4 .non)] S9)))
  | AOut.ret l9 S9 => (some (AOut.ret [(l.getD 0 .non), (l.getD 1 .non), (l9.getD 0 .non), (l.getD 3 .non), (l.getD 4 .non)] S9))))
noncomputable def b129 (C : Cfg) (run : FuncId → List AV → St → Option (AV × St)) (a0 a1 a2 a3 : AV) (S : St) : Option (AV × St) :=
  (aloop (s129_0 C run a0) C.N [a1, a2, a3, AV.bool true, AV.bool true] S).bind fun
  | AOut.norm _ _ => (none)
  | AOut.exit x46 l46 S46 => (if x46 = 0 then (some (und, S46)) else (none))
  | AOut.ret l46 S46 => (some (und, S46))
theorem t129 (N d : Nat) (a0 a1 a2 a3 : AV) (S : St) : R N (d + 1) 129 [a0, a1, a2, a3] S = b129 (cfg N) (R N d) a0 a1 a2 a3 S := by unfold R; kernel_rfl
/- slices.Sort[[]int64,int64] -/
noncomputable def b110 (C : Cfg) (run : FuncId → List AV → St → Option (AV × St)) (a0 : AV) (S : St) : Option (AV × St) :=
  pk (alen a0) S fun r1 =>
  pk (aconv Try.prog 3 152 r1 S) S fun r2 =>
  pq (call0 run 130 [r2] S) fun r3 =>
  pe (callS run 129 [a0, AV.int .i64 0, r1, r3] S) fun r4 S4 =>
  some (und, S4)
theorem t110 (N d : Nat) (a0 : AV) (S : St) : R N (d + 1) 110 [a0] S = b110 (cfg N) (R N d) a0 S := by unfold R; kernel_rfl
/- slices.Compact[[]int64,int64] -/
noncomputable def s111_0 (C : Cfg) (run : FuncId → List AV → St → Option (AV × St)) (a0 : AV) (r11 : AV) (l12 : List AV) (S : St) : Option AOut :=
  pk (alen r11) S fun r13 =>
  pk (bin2 Try.prog .lss 3 ((l12.getD 1 .non)) r13) S fun r14 =>
  ifA r14
  ((pk (pindex 1 r11 ((l12.getD 1 .non)) S) S fun r15 =>
  pk (ld1 S r15) S fun r16 =>
  pk (abin Try.prog .sub 3 ((l12.getD 1 .non)) (AV.int .i64 1)) S fun r17 =>
  pk (pindex 1 r11 r17 S) S fun r18 =>
  pk (ld1 S r18) S fun r19 =>
  pk (bin2 Try.prog .neq 2 r16 r19) S fun r20 =>
  ifA r20
  (pk (pindex 1 r11 ((l12.getD 1 .non)) S) S fun r21 =>
  pk (ld1 S r21) S fun r22 =>
  pk (pindex 1 a0 ((l12.getD 0 .non)) S) S fun r23 =>
  pe (storeA 1 r23 r22 S) fun r24 S24 =>
  pk (abin Try.prog .add 3 ((l12.getD 0 .non)) (AV.int .i64 1)) S24 fun r25 =>
  some (AOut.norm [r25] S24))
  (some (AOut.norm [(l12.getD 0 .non)] S))).bind fun
  | AOut.norm l26 S26 => (pk (abin Try.prog .add 3 ((l12.getD 1 .non)) (AV.int .i64 1)) S26 fun r27 =>
  some (AOut.norm [(l26.getD 0 .non), r27] S26))
  | AOut.exit x26 l26 S26 => (some (AOut.exit x26 [(l26.getD 0 .non), (l12.getD 1 .non)] S26))
  | AOut.ret l26 S26 => (some (AOut.ret [(l26.getD 0 .non), (l12.getD 1 .non)] S26)))
  (some (AOut.exit 2 [(l12.getD 0 .non), (l12.getD 1 .non)] S))
noncomputable def s111_1 (C : Cfg) (run : FuncId → List AV → St → Option (AV × St)) (a0 : AV) (l : List AV) (S : St) : Option AOut :=
  pk (alen a0) S fun r3 =>
  pk (bin2 Try.prog .lss 3 ((l.getD 1 .non)) r3) S fun r4 =>
  ifA r4
  (pk (pindex 1 a0 ((l.getD 1 .non)) S) S fun r5 =>
  pk (ld1 S r5) S fun r6 =>
  pk (abin Try.prog .sub 3 ((l.getD 1 .non)) (AV.int .i64 1)) S fun r7 =>
  pk (pindex 1 a0 r7 S) S fun r8 =>
  pk (ld1 S r8) S fun r9 =>
  pk (bin2 Try.prog .eql 2 r6 r9) S fun r10 =>
  ifA r10
  (pq (sliceA 1 a0 (some ((l.getD 1 .non))) none none S) fun r11 =>
  (aloop (s111_0 C run a0 r11) C.N [(l.getD 1 .non), AV.int .i64 1] S).bind fun
  | AOut.norm _ _ => (none)
  | AOut.exit x28 l28 S28 => (if x28 = 2 then (pq (sliceA 1 a0 (some ((l28.getD 0 .non))) none none S28) fun r29 =>
  pe (aclear Try.prog 31 r29 S28) fun r30 S30 =>
  pq (sliceA 1 a0 none (some ((l28.getD 0 .non))) none S30) fun r31 =>
  some (AOut.ret [r31, (l28.getD 0 .non)] S30)) else (if x28 = 1 then (pk (abin Try.prog .add 3 ((l28.getD 0 .non)) (AV.int .i64 1)) S28 fun r32 =>
  some (AOut.norm [(l.getD 0 .non), r32] S28)) else (some (AOut.exit x28 [(l.getD 0 .non), (l28.getD 0 .non)] S28))))
  | AOut.ret l28 S28 => (some (AOut.ret [(l.getD 0 .non), (l28.getD 0 .non)] S28)))
  (pk (abin Try.prog .add 3 ((l.getD 1 .non)) (AV.int .i64 1)) S fun r33 =>
  some (AOut.norm [(l.getD 0 .non), r33] S)))
  (some (AOut.exit 0 [(l.getD 0 .non), (l.getD 1 .non)] S))
noncomputable def b111 (C : Cfg) (run : FuncId → List AV → St → Option (AV × St)) (a0 : AV) (S : St) : Option (AV × St) :=
  pk (alen a0) S fun r1 =>
  pk (abin Try.prog .lss 3 r1 (AV.int .i64 2)) S fun r2 =>
  ifA r2
  (some (a0, S))
  ((aloop (s111_1 C run a0) C.N [AV.rsl false true [], AV.int .i64 1] S).bind fun
  | AOut.norm _ _ => (none)
  | AOut.exit x34 l34 S34 => (if x34 = 0 then (some (a0, S34)) else (none))
  | AOut.ret l34 S34 => (some ((l34.getD 0 .non), S34)))
theorem t111 (N d : Nat) (a0 : AV) (S : St) : R N (d + 1) 111 [a0] S = b111 (cfg N) (R N d) a0 S := by unfold R; kernel_rfl
/- impl.votersFor -/
noncomputable def s69_0 (C : Cfg) (run : FuncId → List AV → St → Option (AV × St)) (a0 : AV) (r1 : AV) (r3 : AV) (l : List AV) (S : St) : Option AOut :=
  pk (bin2 Try.prog .lss 3 ((l.getD 1 .non)) r3) S fun r4 =>
  ifA r4
  ((pk (pindex 4 a0 ((l.getD 1 .non)) S) S fun r5 =>
  pk (ldA S r5 4) S fun r6 =>
  pe (some (newBox S [AV.int .i64 0, AV.int .i64 0, AV.int .i64 0, AV.str ⟨#[]⟩])) fun r7 S7 =>
  pe (storeA 4 r7 r6 S7) fun r8 S8 =>
  pk (pfield r7 1 3) S8 fun r9 =>
  pk (ldA S8 r9 3) S8 fun r10 =>
  pk (ldA S8 r1 3) S8 fun r11 =>
  pk (bin2 Try.prog .eql 53 r10 r11) S8 fun r12 =>
  ifA r12
  (pk (pfield r7 0 1) S8 fun r13 =>
  pk (ld1 S8 r13) S8 fun r14 =>
  pe (abuildS Try.prog 31 1 [(0, r14)] S8) fun r15 S15 =>
  pe (appA 1 8 ((l.getD 0 .non)) r15 S15) fun r16 S16 =>
  some (AOut.norm [r16] S16))
  (some (AOut.norm [(l.getD 0 .non)] S8))).bind fun
  | AOut.norm l17 S17 => (pk (abin Try.prog .add 3 ((l.getD 1 .non)) (AV.int .i64 1)) S17 fun r18 =>
  some (AOut.norm [(l17.getD 0 .non), r18] S17))
  | AOut.exit x17 l17 S17 => (some (AOut.exit x17 [(l17.getD 0 .non), (l.getD 1 .non)] S17))
  | AOut.ret l17 S17 => (some (AOut.ret [(l17.getD 0 .non), (l.getD 1 .non)] S17)))
  (some (AOut.exit 0 [(l.getD 0 .non), (l.getD 1 .non)] S))
noncomputable def b69 (C : Cfg) (run : FuncId → List AV → St → Option (AV × St)) (a0 a1 : AV) (S : St) : Option (AV × St) :=
  pe (boxA a1 S) fun r1 S1 =>
  pe (abuildS Try.prog 31 0 [] S1) fun r2 S2 =>
  pk (alen a0) S2 fun r3 =>
  (aloop (s69_0 C run a0 r1 r3) C.N [r2, AV.int .i64 0] S2).bind fun
  | AOut.norm _ _ => (none)
  | AOut.exit x19 l19 S19 => (if x19 = 0 then (pe (callS run 110 [(l19.getD 0 .non)] S19) fun r20 S20 =>
  pe (callS run 111 [(l19.getD 0 .non)] S20) fun r21 S21 =>
  some (r21, S21)) else (none))
  | AOut.ret l19 S19 => (some (AV.rsl false true [], S19))
theorem t69 (N d : Nat) (a0 a1 : AV) (S : St) : R N (d + 1) 69 [a0, a1] S = b69 (cfg N) (R N d) a0 a1 S := by unfold R; kernel_rfl
/- impl.AcceptOf -/
noncomputable def s27_0 (C : Cfg) (run : FuncId → List AV → St → Option (AV × St)) (a0 : AV) (a1 : AV) (r1 : AV) (r6 : AV) (l : List AV) (S : St) : Option AOut :=
  pk (bin2 Try.prog .lss 3 ((l.getD 0 .non)) r6) S fun r7 =>
  ifA r7
  (pk (pindex 4 a1 ((l.getD 0 .non)) S) S fun r8 =>
  pk (ldA S r8 4) S fun r9 =>
  pe (some (newBox S [AV.int .i64 0, AV.int .i64 0, AV.int .i64 0, AV.str ⟨#[]⟩])) fun r10 S10 =>
  pe (storeA 4 r10 r9 S10) fun r11 S11 =>
  pk (pfield r10 1 3) S11 fun r12 =>
  pk (ldA S11 r12 3) S11 fun r13 =>
  pq (call0 run 69 [a1, r13] S11) fun r14 =>
  pk (alen r14) S11 fun r15 =>
  pk (bin2 Try.prog .gtr 2 r15 a0) S11 fun r16 =>
  ifA r16
  (pk (pfield r10 1 3) S11 fun r17 =>
  pk (ldA S11 r17 3) S11 fun r18 =>
  pk (abuild Try.prog 55 [(1, r18)]) S11 fun r19 =>
  pe (storeA 4 r1 r19 S11) fun r20 S20 =>
  some (AOut.ret [(l.getD 0 .non)] S20))
  (pk (abin Try.prog .add 3 ((l.getD 0 .non)) (AV.int .i64 1)) S11 fun r21 =>
  some (AOut.norm [r21] S11)))
  (some (AOut.exit 0 [(l.getD 0 .non)] S))
noncomputable def b27 (C : Cfg) (run : FuncId → List AV → St → Option (AV × St)) (a0 a1 : AV) (S : St) : Option (AV × St) :=
  pe (some (newBox S [AV.int .i64 0, AV.int .i64 0, AV.int .i64 0, AV.str ⟨#[]⟩])) fun r1 S1 =>
  pq (call0 run 11 [a0, a1] S1) fun r2 =>
  pk (abin Try.prog .neq 2 r2 (AV.int .i64 0)) S1 fun r3 =>
  ifA r3
  (pk (abuild Try.prog 55 [(0, r2)]) S1 fun r4 =>
  pe (storeA 4 r1 r4 S1) fun r5 S5 =>
  (ldA S5 r1 4).map (·, S5))
  (pk (alen a1) S1 fun r6 =>
  (aloop (s27_0 C run a0 a1 r1 r6) C.N [AV.int .i64 0] S1).bind fun
  | AOut.norm _ _ => (none)
  | AOut.exit x22 l22 S22 => (if x22 = 0 then (pk (abuild Try.prog 55 [(0, AV.int .i64 10)]) S22 fun r23 =>
  pe (storeA 4 r1 r23 S22) fun r24 S24 =>
  (ldA S24 r1 4).map (·, S24)) else (none))
  | AOut.ret l22 S22 => ((ldA S22 r1 4).map (·, S22)))
theorem t27 (N d : Nat) (a0 a1 : AV) (S : St) : R N (d + 1) 27 [a0, a1] S = b27 (cfg N) (R N d) a0 a1 S := by unfold R; kernel_rfl
/- laws.eqReplyResult -/
noncomputable def b28 (C : Cfg) (run : FuncId → List AV → St → Option (AV × St)) (a0 a1 : AV) (S : St) : Option (AV × St) :=
  pe (boxA a0 S) fun r1 S1 =>
  pe (boxA a1 S1) fun r2 S2 =>
  pk (pfield r1 0 1) S2 fun r3 =>
  pk (ld1 S2 r3) S2 fun r4 =>
  pk (pfield r2 0 1) S2 fun r5 =>
  pk (ld1 S2 r5) S2 fun r6 =>
  pk (bin2 Try.prog .neq 2 r4 r6) S2 fun r7 =>
  ifA r7
  (some (AV.bool false, S2))
  (pk (pfield r1 1 3) S2 fun r8 =>
  pk (ldA S2 r8 3) S2 fun r9 =>
  pk (pfield r2 1 3) S2 fun r10 =>
  pk (ldA S2 r10 3) S2 fun r11 =>
  pq (call0 run 70 [r9, r11] S2) fun r12 =>
  pk (aun .not r12) S2 fun r13 =>
  ifA r13
  (some (AV.bool false, S2))
  (some (AV.bool true, S2)))
theorem t28 (N d : Nat) (a0 a1 : AV) (S : St) : R N (d + 1) 28 [a0, a1] S = b28 (cfg N) (R N d) a0 a1 S := by unfold R; kernel_rfl
/- laws.FnExactAcceptOf -/
noncomputable def b5 (C : Cfg) (run : FuncId → List AV → St → Option (AV × St)) (a0 a1 : AV) (S : St) : Option (AV × St) :=
  pq (call0 run 8 [a1, AV.int .i64 1048576] S) fun r1 =>
  pk (abin Try.prog .lss 3 r1 (AV.int .i64 0)) S fun r2 =>
  ifA r2
  (some (AV.bool true, S))
  (pq (call0 run 10 [a1] S) fun r3 =>
  pq (call0 run 26 [a0, r3] S) fun r4 =>
  pe (some (newBox S [AV.int .i64 0, AV.int .i64 0, AV.int .i64 0, AV.str ⟨#[]⟩])) fun r5 S5 =>
  pe (storeA 4 r5 r4 S5) fun r6 S6 =>
  pq (call0 run 10 [a1] S6) fun r7 =>
  pq (call0 run 27 [a0, r7] S6) fun r8 =>
  pe (some (newBox S6 [AV.int .i64 0, AV.int .i64 0, AV.int .i64 0, AV.str ⟨#[]⟩])) fun r9 S9 =>
  pe (storeA 4 r9 r8 S9) fun r10 S10 =>
  pk (ldA S10 r9 4) S10 fun r11 =>
  pk (ldA S10 r5 4) S10 fun r12 =>
  pq (call0 run 28 [r11, r12] S10) fun r13 =>
  pk (aun .not r13) S10 fun r14 =>
  ifA r14
  (some (AV.bool false, S10))
  (pq (call0 run 10 [a1] S10) fun r15 =>
  pq (call0 run 12 [r7, r15] S10) fun r16 =>
  pk (aun .not r16) S10 fun r17 =>
  ifA r17
  (some (AV.bool false, S10))
  (some (AV.bool true, S10))))
theorem t5 (N d : Nat) (a0 a1 : AV) (S : St) : R N (d + 1) 5 [a0, a1] S = b5 (cfg N) (R N d) a0 a1 S := by unfold R; kernel_rfl
end Go.Proofs.Ytionojjamahhpaa
