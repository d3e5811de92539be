/- What the evaluator makes of the functions; what they compute. -/
import Derived.Test.YtgjplfeejfeioaaGreatDoorProg
import Derived.KernelRfl
import Derived.Test.YtgjplfeejfeioaaGreatDoorRg2
import Derived.Test.YtgjplfeejfeioaaGreatDoorRh4
import Derived.Lib.Bytealg
namespace Go.Proofs.YtgjplfeejfeioaaGreatDoor
open Go Go.Rf
set_option linter.unusedVariables false
noncomputable section
def cutT : List (Nat × List Nat) := [(5710005006, [1, 4, 5]), (10210005006, [1, 4, 5]), (5810005006, [1, 4, 5]), (6010003004, [4]), (6110003004, [4]), (19110003004, [4]), (6210003004, [4]), (10810003004, [4]), (6310003004, [4]), (7210004005, [4, 5]), (7310004005, [4, 5]), (20610004005, [4, 5]), (7410004005, [4, 5]), (11210004005, [4, 5]), (7510004005, [4, 5]), (21800001001, [2]), (25400006008, [5, 6]), (25410004005, [5, 6, 7]), (27700004004, [31]), (27700004005, [2]), (27710002003, [2, 3]), (25500004005, [2, 3]), (25510007008, [2, 3, 5]), (21900001001, [17]), (21900001002, [2]), (17100003003, [71]), (17100003004, [2]), (17100005008, [2]), (17100009010, [2]), (10400001001, [27]), (10400001002, [2]), (10400003004, [2]), (10400012012, [75]), (10410006007, [2, 3]), (10410012013, [2, 5]), (10500004005, [6]), (10510002003, [6, 7]), (25800002002, [2]), (25900014016, [2]), (25900015015, [96]), (25910002003, [2, 3]), (25910007008, [2, 4]), (25910012013, [2, 5]), (25910018019, [2, 7]), (22700004004, [47]), (22700004005, [4]), (22700006007, [4]), (22810002003, [4, 5]), (26000001001, [85]), (26000001002, [4]), (26010004005, [4, 5]), (26010009010, [4, 6]), (22910002003, [4, 5]), (18810004005, [4, 5]), (12100006009, [4]), (12110004005, [4, 5]), (8010002003, [4, 5]), (20700005007, [9]), (20710003004, [9, 10]), (7600005013, [7]), (7600007007, [24]), (7600009011, [9]), (7600010010, [50]), (7610003004, [7, 8]), (7610007008, [9, 10]), (8810003004, [4, 5, 6]), (8100001002, [6]), (8110004005, [6, 7]), (18110002003, [6, 7]), (11500004004, [43]), (11500004005, [6]), (11500009009, [102]), (11500009010, [6]), (11510007008, [6, 8]), (19000001001, [29]), (19000001002, [6]), (19000003003, [55]), (19000003004, [6]), (19000005006, [6]), (12200005008, [2, 3]), (12200006007, [2]), (12210003004, [2, 3, 4]), (12210012013, [2, 5]), (5910013014, [2, 6]), (2400006012, [2]), (2400008009, [2]), (2400011011, [50]), (2400013015, [2]), (2400014014, [98]), (2410004005, [2, 3]), (2410011012, [2, 5]), (21110002006, [4, 8]), (19400001001, [3]), (23210002006, [4, 8]), (12600002002, [13]), (12600002007, [4]), (12600004004, [54]), (12600010012, [4]), (12600016018, [4]), (12610009013, [4, 97]), (12610015019, [4, 120]), (15410002006, [4, 8]), (6610004008, [4, 13]), (23310004008, [4, 13]), (19900001001, [4]), (6410006015, [4, 18]), (6500003007, [4]), (6510002008, [4, 9]), (15910002006, [4, 8]), (6700005006, [5]), (6710003004, [5, 6]), (24600001001, [4]), (24000004004, [30]), (24010001002, [6]), (24010004005, [7]), (26500003004, [9]), (26510001007, [8]), (24110004005, [9]), (24110008009, [10]), (24900001003, [0, 2]), (24900004006, [0, 2]), (25000001003, [0, 2]), (25000004006, [0, 2]), (25000007009, [0, 2]), (24200007010, []), (24200008009, [10]), (24210005006, [9]), (24300006011, [11]), (24300007010, [10, 11, 12]), (24410002005, [6, 7]), (24500005005, [32]), (24500005021, [6, 7]), (24500012015, []), (24510003004, [6, 7, 8]), (24510005006, [7]), (24510014015, [9]), (24510020021, [10]), (24700003003, [43]), (24700005005, [59]), (24710003004, [9]), (24710003010, [9, 10]), (24710005006, [10]), (24800003003, [43]), (24800005005, [60]), (24800013013, [112]), (24800015015, [129]), (24810003004, [10]), (24810005006, [11]), (24810013014, [10]), (24810013020, [10, 11]), (24810015016, [11]), (20900007009, [3]), (20900011014, [11, 12]), (20900015015, [68]), (20900015016, []), (20900017019, [1]), (20910002030, [1, 2, 3, 8, 9]), (23900011013, [3]), (23910004005, [2, 3]), (23910009010, [3, 5]), (20800004006, [11]), (20800005005, [42]), (20810003007, [11, 17]), (7700004006, [7]), (7700005005, [42]), (7710003007, [7, 13]), (6810003004, [5, 6]), (15300001001, [6]), (13300002002, [37]), (13300002003, [6]), (13300007010, [6, 9]), (13300008008, [69]), (13300008009, [6]), (13310006011, [6, 9, 42]), (6900001001, [9]), (6900001006, [8]), (6900003003, [27]), (26400005006, [3]), (26410011016, [0, 10]), (23700003005, [2]), (23700004004, [30]), (23710002006, [2, 6]), (20300001002, [2]), (20300006007, [2]), (20310009013, [2, 30]), (13600003003, [14]), (13600003006, [2]), (13600010011, [2]), (20510002006, [4, 8]), (7000001001, [6]), (7000001004, [2]), (7000012013, [2]), (7010006011, [2, 32]), (13910002006, [4, 8]), (1800004005, [2]), (1810011014, [5, 47]), (1810019024, [2, 74]), (1810026033, [2, 92]), (14810002006, [4, 8]), (8600001001, [3]), (2500005010, [2]), (2500007008, [2]), (2510004011, [2, 11])]
def mdT : List (Nat × Nat) := [(250082, 2), (770145, 2), (830150, 2), (1330150, 2), (1450209, 2), (2080145, 2), (2080239, 2), (2090209, 2), (2090240, 2), (2090241, 2), (2090242, 2), (2090244, 2), (2090245, 2), (2090247, 2), (2090248, 2), (2410265, 2), (2420267, 2), (2430268, 2), (2430269, 2), (2680269, 2), (2690284, 2)]
@[irreducible] def NN : Nat := maxLen + 1
def ext234 : ByteArray → UInt8 → Int := fun s c => (Lib.indexByte s.data.toList c : Int)
def ext235 : ByteArray → UInt8 → Int := fun s c => (Lib.countByte s.data.toList c : Int)
def cfg (N : Nat) : Cfg := { P := Tryz.prog, N := N, md := fun f g => lookM mdT (f * 10000 + g), cut := fun f k => lookT cutT (f * 100000000 + k), ext := fun f => if f = 234 then some (extSB ext234) else if f = 235 then some (extSB ext235) else none }
@[irreducible] noncomputable def R (N d : Nat) : FuncId → List AV → St → Option (AV × St) := arun (cfg N) d
def b55 (C : Cfg) (run : RunT) (a0 a1 : AV) (S : St) : OA :=
  pk (alen a0) S fun r1 =>
  pk (bin2 Tryz.prog .sub 3 a1 r1) S fun r2 =>
  pk (abin Tryz.prog .lss 3 r2 (AV.int .i64 0)) S fun r3 =>
  ifA r3
  (some (AV.int .i64 (-1), S))
  (some (r2, S))
theorem t55 (N d : Nat) (a0 a1 : AV) (S : St) : R N (d + 1) 55 [a0, a1] S = b55 (cfg N) (R N d) a0 a1 S := by unfold R; kernel_rfl
def b56 (C : Cfg) (run : RunT) (a0 a1 : AV) (S : St) : OA :=
  pk (alen a0) S fun r1 =>
  pk (bin2 Tryz.prog .sub 3 a1 r1) S fun r2 =>
  pk (abin Tryz.prog .lss 3 r2 (AV.int .i64 0)) S fun r3 =>
  ifA r3
  (some (AV.int .i64 (-1), S))
  (some (r2, S))
theorem t56 (N d : Nat) (a0 a1 : AV) (S : St) : R N (d + 1) 56 [a0, a1] S = b56 (cfg N) (R N d) a0 a1 S := by unfold R; kernel_rfl
def b186 (C : Cfg) (run : RunT) (a0 a1 : AV) (S : St) : OA :=
  pk (alen a0) S fun r1 =>
  pk (bin2 Tryz.prog .sub 3 a1 r1) S fun r2 =>
  pk (abin Tryz.prog .lss 3 r2 (AV.int .i64 0)) S fun r3 =>
  ifA r3
  (some (AV.int .i64 (-1), S))
  (some (r2, S))
theorem t186 (N d : Nat) (a0 a1 : AV) (S : St) : R N (d + 1) 186 [a0, a1] S = b186 (cfg N) (R N d) a0 a1 S := by unfold R; kernel_rfl
def b119 (C : Cfg) (run : RunT) (a0 a1 : AV) (S : St) : OA :=
  pe (boxA a0 S) fun r1 S1 =>
  pk (pfield r1 5 1) S1 fun r2 =>
  pk (ld1 S1 r2) S1 fun r3 =>
  pq (call0 run 186 [r3, a1] S1) fun r4 =>
  pk (abin Tryz.prog .lss 3 r4 (AV.int .i64 0)) S1 fun r5 =>
  ifA r5
  (some (AV.int .i64 (-1), S1))
  (pk (pfield r1 6 1) S1 fun r6 =>
  pk (ld1 S1 r6) S1 fun r7 =>
  pq (call0 run 55 [r7, r4] S1) fun r8 =>
  pk (abin Tryz.prog .lss 3 r8 (AV.int .i64 0)) S1 fun r9 =>
  ifA r9
  (some (AV.int .i64 (-1), S1))
  (some (r8, S1)))
theorem t119 (N d : Nat) (a0 a1 : AV) (S : St) : R N (d + 1) 119 [a0, a1] S = b119 (cfg N) (R N d) a0 a1 S := by unfold R; kernel_rfl
def s57_0 (C : Cfg) (run : RunT) (a0 : AV) (l : List AV) (S : St) : Option AOut :=
  pk (alen a0) S fun r4 =>
  pk (bin2 Tryz.prog .lss 3 ((gd l 2)) r4) S fun r5 =>
  ifA r5
  (pk (pindex 7 a0 ((gd l 2)) S) S fun r6 =>
  pk (ldA S r6 7) S fun r7 =>
  pq (call0 run 119 [r7, (gd l 0)] S) fun r8 =>
  pk (abin Tryz.prog .lss 3 r8 (AV.int .i64 0)) S fun r9 =>
  ifA r9
  (some (AOut.ret [r8, AV.int .i64 (-1), (gd l 2)] S))
  (pk (abin Tryz.prog .add 3 ((gd l 2)) (AV.int .i64 1)) S fun r10 =>
  some (AOut.norm [r8, (gd l 1), r10] S)))
  (some (AOut.exit 0 [(gd l 0), (gd l 1), (gd l 2)] S))
def b57 (C : Cfg) (run : RunT) (a0 a1 : AV) (S : St) : OA :=
  pk (alen a0) S fun r1 =>
  pk (bin2 Tryz.prog .sub 3 a1 r1) S fun r2 =>
  pk (abin Tryz.prog .lss 3 r2 (AV.int .i64 0)) S fun r3 =>
  ifA r3
  (some (AV.int .i64 (-1), S))
  ((aloop (s57_0 C run a0) C.N [r2, AV.int .i64 0, AV.int .i64 0] S).bind fun
  | AOut.norm _ _ => (none)
  | AOut.exit x11 l11 S11 => (if x11 = 0 then (some ((gd l11 0), S11)) else (none))
  | AOut.ret l11 S11 => (some ((gd l11 1), S11)))
theorem t57 (N d : Nat) (a0 a1 : AV) (S : St) : R N (d + 1) 57 [a0, a1] S = b57 (cfg N) (R N d) a0 a1 S := by unfold R; kernel_rfl
def b167 (C : Cfg) (run : RunT) (a0 a1 : AV) (S : St) : OA :=
  pe (boxA a0 S) fun r1 S1 =>
  pk (pfield r1 1 1) S1 fun r2 =>
  pk (ld1 S1 r2) S1 fun r3 =>
  pk (slen r3) S1 fun r4 =>
  pk (bin2 Tryz.prog .sub 3 a1 r4) S1 fun r5 =>
  pk (abin Tryz.prog .lss 3 r5 (AV.int .i64 0)) S1 fun r6 =>
  ifA r6
  (some (AV.int .i64 (-1), S1))
  (some (r5, S1))
theorem t167 (N d : Nat) (a0 a1 : AV) (S : St) : R N (d + 1) 167 [a0, a1] S = b167 (cfg N) (R N d) a0 a1 S := by unfold R; kernel_rfl
def s102_0 (C : Cfg) (run : RunT) (a0 : AV) (l : List AV) (S : St) : Option AOut :=
  pk (alen a0) S fun r4 =>
  pk (bin2 Tryz.prog .lss 3 ((gd l 2)) r4) S fun r5 =>
  ifA r5
  (pk (pindex 6 a0 ((gd l 2)) S) S fun r6 =>
  pk (ldA S r6 6) S fun r7 =>
  pq (call0 run 167 [r7, (gd l 0)] S) fun r8 =>
  pk (abin Tryz.prog .lss 3 r8 (AV.int .i64 0)) S fun r9 =>
  ifA r9
  (some (AOut.ret [r8, AV.int .i64 (-1), (gd l 2)] S))
  (pk (abin Tryz.prog .add 3 ((gd l 2)) (AV.int .i64 1)) S fun r10 =>
  some (AOut.norm [r8, (gd l 1), r10] S)))
  (some (AOut.exit 0 [(gd l 0), (gd l 1), (gd l 2)] S))
def b102 (C : Cfg) (run : RunT) (a0 a1 : AV) (S : St) : OA :=
  pk (alen a0) S fun r1 =>
  pk (bin2 Tryz.prog .sub 3 a1 r1) S fun r2 =>
  pk (abin Tryz.prog .lss 3 r2 (AV.int .i64 0)) S fun r3 =>
  ifA r3
  (some (AV.int .i64 (-1), S))
  ((aloop (s102_0 C run a0) C.N [r2, AV.int .i64 0, AV.int .i64 0] S).bind fun
  | AOut.norm _ _ => (none)
  | AOut.exit x11 l11 S11 => (if x11 = 0 then (some ((gd l11 0), S11)) else (none))
  | AOut.ret l11 S11 => (some ((gd l11 1), S11)))
theorem t102 (N d : Nat) (a0 a1 : AV) (S : St) : R N (d + 1) 102 [a0, a1] S = b102 (cfg N) (R N d) a0 a1 S := by unfold R; kernel_rfl
def b42 (C : Cfg) (run : RunT) (a0 a1 : AV) (S : St) : OA :=
  pe (boxA a0 S) fun r1 S1 =>
  pk (pfield r1 3 1) S1 fun r2 =>
  pk (ld1 S1 r2) S1 fun r3 =>
  pq (call0 run 102 [r3, a1] S1) fun r4 =>
  pk (abin Tryz.prog .lss 3 r4 (AV.int .i64 0)) S1 fun r5 =>
  ifA r5
  (some (AV.int .i64 (-1), S1))
  (some (r4, S1))
theorem t42 (N d : Nat) (a0 a1 : AV) (S : St) : R N (d + 1) 42 [a0, a1] S = b42 (cfg N) (R N d) a0 a1 S := by unfold R; kernel_rfl
def s58_0 (C : Cfg) (run : RunT) (a0 : AV) (l : List AV) (S : St) : Option AOut :=
  pk (alen a0) S fun r4 =>
  pk (bin2 Tryz.prog .lss 3 ((gd l 2)) r4) S fun r5 =>
  ifA r5
  (pk (pindex 4 a0 ((gd l 2)) S) S fun r6 =>
  pk (ldA S r6 4) S fun r7 =>
  pq (call0 run 42 [r7, (gd l 0)] S) fun r8 =>
  pk (abin Tryz.prog .lss 3 r8 (AV.int .i64 0)) S fun r9 =>
  ifA r9
  (some (AOut.ret [r8, AV.int .i64 (-1), (gd l 2)] S))
  (pk (abin Tryz.prog .add 3 ((gd l 2)) (AV.int .i64 1)) S fun r10 =>
  some (AOut.norm [r8, (gd l 1), r10] S)))
  (some (AOut.exit 0 [(gd l 0), (gd l 1), (gd l 2)] S))
def b58 (C : Cfg) (run : RunT) (a0 a1 : AV) (S : St) : OA :=
  pk (alen a0) S fun r1 =>
  pk (bin2 Tryz.prog .sub 3 a1 r1) S fun r2 =>
  pk (abin Tryz.prog .lss 3 r2 (AV.int .i64 0)) S fun r3 =>
  ifA r3
  (some (AV.int .i64 (-1), S))
  ((aloop (s58_0 C run a0) C.N [r2, AV.int .i64 0, AV.int .i64 0] S).bind fun
  | AOut.norm _ _ => (none)
  | AOut.exit x11 l11 S11 => (if x11 = 0 then (some ((gd l11 0), S11)) else (none))
  | AOut.ret l11 S11 => (some ((gd l11 1), S11)))
theorem t58 (N d : Nat) (a0 a1 : AV) (S : St) : R N (d + 1) 58 [a0, a1] S = b58 (cfg N) (R N d) a0 a1 S := by unfold R; kernel_rfl
def b15 (C : Cfg) (run : RunT) (a0 a1 : AV) (S : St) : OA :=
  pe (boxA a0 S) fun r1 S1 =>
  pk (pfield r1 1 1) S1 fun r2 =>
  pk (ld1 S1 r2) S1 fun r3 =>
  pq (call0 run 55 [r3, a1] S1) fun r4 =>
  pk (abin Tryz.prog .lss 3 r4 (AV.int .i64 0)) S1 fun r5 =>
  ifA r5
  (some (AV.int .i64 (-1), S1))
  (pk (pfield r1 2 1) S1 fun r6 =>
  pk (ld1 S1 r6) S1 fun r7 =>
  pq (call0 run 56 [r7, r4] S1) fun r8 =>
  pk (abin Tryz.prog .lss 3 r8 (AV.int .i64 0)) S1 fun r9 =>
  ifA r9
  (some (AV.int .i64 (-1), S1))
  (pk (pfield r1 3 1) S1 fun r10 =>
  pk (ld1 S1 r10) S1 fun r11 =>
  pq (call0 run 57 [r11, r8] S1) fun r12 =>
  pk (abin Tryz.prog .lss 3 r12 (AV.int .i64 0)) S1 fun r13 =>
  ifA r13
  (some (AV.int .i64 (-1), S1))
  (pk (pfield r1 4 1) S1 fun r14 =>
  pk (ld1 S1 r14) S1 fun r15 =>
  pq (call0 run 58 [r15, r12] S1) fun r16 =>
  pk (abin Tryz.prog .lss 3 r16 (AV.int .i64 0)) S1 fun r17 =>
  ifA r17
  (some (AV.int .i64 (-1), S1))
  (some (r16, S1)))))
theorem t15 (N d : Nat) (a0 a1 : AV) (S : St) : R N (d + 1) 15 [a0, a1] S = b15 (cfg N) (R N d) a0 a1 S := by unfold R; kernel_rfl
def s60_0 (C : Cfg) (run : RunT) (a0 : AV) (r2 : AV) (l : List AV) (S : St) : Option AOut :=
  pk (alen a0) S fun r3 =>
  pk (bin2 Tryz.prog .lss 3 ((gd l 0)) r3) S fun r4 =>
  ifA r4
  (pk (pindex 1 a0 ((gd l 0)) S) S fun r5 =>
  pk (ld1 S r5) S fun r6 =>
  pk (pindex 1 r2 ((gd l 0)) S) S fun r7 =>
  pe (storeA 1 r7 r6 S) fun r8 S8 =>
  pk (abin Tryz.prog .add 3 ((gd l 0)) (AV.int .i64 1)) S8 fun r9 =>
  some (AOut.norm [r9] S8))
  (some (AOut.exit 0 [(gd l 0)] S))
def b60 (C : Cfg) (run : RunT) (a0 : AV) (S : St) : OA :=
  pk (alen a0) S fun r1 =>
  pe (amake Tryz.prog 22 r1 r1 S) fun r2 S2 =>
  (aloop (s60_0 C run a0 r2) C.N [AV.int .i64 0] S2).bind fun
  | AOut.norm _ _ => (none)
  | AOut.exit x10 l10 S10 => (if x10 = 0 then (some (r2, S10)) else (none))
  | AOut.ret l10 S10 => (some (AV.rsl false true [], S10))
theorem t60 (N d : Nat) (a0 : AV) (S : St) : R N (d + 1) 60 [a0] S = b60 (cfg N) (R N d) a0 S := by unfold R; kernel_rfl
def b123 (C : Cfg) (run : RunT) (a0 : AV) (S : St) : OA :=
  pe (boxA a0 S) fun r1 S1 =>
  pe (some (newBox S1 [AV.int .i64 0, AV.int .i64 0, AV.int .i64 0, AV.int .i64 0])) fun r2 S2 =>
  pe (some (newBox S2 [AV.int .i64 0, AV.int .i64 0, AV.int .i64 0, AV.int .i64 0])) fun r3 S3 =>
  pk (pfield r1 0 1) S3 fun r4 =>
  pk (ld1 S3 r4) S3 fun r5 =>
  pk (pfield r3 0 1) S3 fun r6 =>
  pe (storeA 1 r6 r5 S3) fun r7 S7 =>
  pk (pfield r1 1 1) S7 fun r8 =>
  pk (ld1 S7 r8) S7 fun r9 =>
  pk (pfield r3 1 1) S7 fun r10 =>
  pe (storeA 1 r10 r9 S7) fun r11 S11 =>
  pk (pfield r1 2 1) S11 fun r12 =>
  pk (ld1 S11 r12) S11 fun r13 =>
  pk (pfield r3 2 1) S11 fun r14 =>
  pe (storeA 1 r14 r13 S11) fun r15 S15 =>
  pk (pfield r1 3 1) S15 fun r16 =>
  pk (ld1 S15 r16) S15 fun r17 =>
  pk (pfield r3 3 1) S15 fun r18 =>
  pe (storeA 1 r18 r17 S15) fun r19 S19 =>
  pk (ldA S19 r3 4) S19 fun r20 =>
  pe (storeA 4 r2 r20 S19) fun r21 S21 =>
  (ldA S21 r2 4).map (·, S21)
theorem t123 (N d : Nat) (a0 : AV) (S : St) : R N (d + 1) 123 [a0] S = b123 (cfg N) (R N d) a0 S := by unfold R; kernel_rfl
def s61_0 (C : Cfg) (run : RunT) (a0 : AV) (r2 : AV) (l : List AV) (S : St) : Option AOut :=
  pk (alen a0) S fun r3 =>
  pk (bin2 Tryz.prog .lss 3 ((gd l 0)) r3) S fun r4 =>
  ifA r4
  (pk (pindex 4 a0 ((gd l 0)) S) S fun r5 =>
  pk (ldA S r5 4) S fun r6 =>
  pq (call0 run 123 [r6] S) fun r7 =>
  pk (pindex 4 r2 ((gd l 0)) S) S fun r8 =>
  pe (storeA 4 r8 r7 S) fun r9 S9 =>
  pk (abin Tryz.prog .add 3 ((gd l 0)) (AV.int .i64 1)) S9 fun r10 =>
  some (AOut.norm [r10] S9))
  (some (AOut.exit 0 [(gd l 0)] S))
def b61 (C : Cfg) (run : RunT) (a0 : AV) (S : St) : OA :=
  pk (alen a0) S fun r1 =>
  pe (amake Tryz.prog 30 r1 r1 S) fun r2 S2 =>
  (aloop (s61_0 C run a0 r2) C.N [AV.int .i64 0] S2).bind fun
  | AOut.norm _ _ => (none)
  | AOut.exit x11 l11 S11 => (if x11 = 0 then (some (r2, S11)) else (none))
  | AOut.ret l11 S11 => (some (AV.rsl false true [], S11))
theorem t61 (N d : Nat) (a0 : AV) (S : St) : R N (d + 1) 61 [a0] S = b61 (cfg N) (R N d) a0 S := by unfold R; kernel_rfl
def b231 (C : Cfg) (run : RunT) (a0 : AV) (S : St) : OA :=
  pe (boxA a0 S) fun r1 S1 =>
  pe (some (newBox S1 [AV.int .i64 0, AV.int .i64 0, AV.int .i64 0])) fun r2 S2 =>
  pe (some (newBox S2 [AV.int .i64 0, AV.int .i64 0, AV.int .i64 0])) fun r3 S3 =>
  pk (pfield r1 0 1) S3 fun r4 =>
  pk (ld1 S3 r4) S3 fun r5 =>
  pk (pfield r3 0 1) S3 fun r6 =>
  pe (storeA 1 r6 r5 S3) fun r7 S7 =>
  pk (pfield r1 1 1) S7 fun r8 =>
  pk (ld1 S7 r8) S7 fun r9 =>
  pk (pfield r3 1 1) S7 fun r10 =>
  pe (storeA 1 r10 r9 S7) fun r11 S11 =>
  pk (pfield r1 2 1) S11 fun r12 =>
  pk (ld1 S11 r12) S11 fun r13 =>
  pk (pfield r3 2 1) S11 fun r14 =>
  pe (storeA 1 r14 r13 S11) fun r15 S15 =>
  pk (ldA S15 r3 3) S15 fun r16 =>
  pe (storeA 3 r2 r16 S15) fun r17 S17 =>
  (ldA S17 r2 3).map (·, S17)
theorem t231 (N d : Nat) (a0 : AV) (S : St) : R N (d + 1) 231 [a0] S = b231 (cfg N) (R N d) a0 S := by unfold R; kernel_rfl
def s191_0 (C : Cfg) (run : RunT) (a0 : AV) (r2 : AV) (l : List AV) (S : St) : Option AOut :=
  pk (alen a0) S fun r3 =>
  pk (bin2 Tryz.prog .lss 3 ((gd l 0)) r3) S fun r4 =>
  ifA r4
  (pk (pindex 3 a0 ((gd l 0)) S) S fun r5 =>
  pk (ldA S r5 3) S fun r6 =>
  pq (call0 run 231 [r6] S) fun r7 =>
  pk (pindex 3 r2 ((gd l 0)) S) S fun r8 =>
  pe (storeA 3 r8 r7 S) fun r9 S9 =>
  pk (abin Tryz.prog .add 3 ((gd l 0)) (AV.int .i64 1)) S9 fun r10 =>
  some (AOut.norm [r10] S9))
  (some (AOut.exit 0 [(gd l 0)] S))
def b191 (C : Cfg) (run : RunT) (a0 : AV) (S : St) : OA :=
  pk (alen a0) S fun r1 =>
  pe (amake Tryz.prog 101 r1 r1 S) fun r2 S2 =>
  (aloop (s191_0 C run a0 r2) C.N [AV.int .i64 0] S2).bind fun
  | AOut.norm _ _ => (none)
  | AOut.exit x11 l11 S11 => (if x11 = 0 then (some (r2, S11)) else (none))
  | AOut.ret l11 S11 => (some (AV.rsl false true [], S11))
theorem t191 (N d : Nat) (a0 : AV) (S : St) : R N (d + 1) 191 [a0] S = b191 (cfg N) (R N d) a0 S := by unfold R; kernel_rfl
def b124 (C : Cfg) (run : RunT) (a0 : AV) (S : St) : OA :=
  pe (boxA a0 S) fun r1 S1 =>
  pe (some (newBox S1 [AV.int .i64 0, AV.int .i64 0, AV.int .i64 0, AV.int .i64 0, AV.int .i64 0, AV.rsl false true [], AV.rsl false true []])) fun r2 S2 =>
  pe (some (newBox S2 [AV.int .i64 0, AV.int .i64 0, AV.int .i64 0, AV.int .i64 0, AV.int .i64 0, AV.rsl false true [], AV.rsl false true []])) fun r3 S3 =>
  pk (pfield r1 0 1) S3 fun r4 =>
  pk (ld1 S3 r4) S3 fun r5 =>
  pk (pfield r3 0 1) S3 fun r6 =>
  pe (storeA 1 r6 r5 S3) fun r7 S7 =>
  pk (pfield r1 1 1) S7 fun r8 =>
  pk (ld1 S7 r8) S7 fun r9 =>
  pk (pfield r3 1 1) S7 fun r10 =>
  pe (storeA 1 r10 r9 S7) fun r11 S11 =>
  pk (pfield r1 2 1) S11 fun r12 =>
  pk (ld1 S11 r12) S11 fun r13 =>
  pk (pfield r3 2 1) S11 fun r14 =>
  pe (storeA 1 r14 r13 S11) fun r15 S15 =>
  pk (pfield r1 3 1) S15 fun r16 =>
  pk (ld1 S15 r16) S15 fun r17 =>
  pk (pfield r3 3 1) S15 fun r18 =>
  pe (storeA 1 r18 r17 S15) fun r19 S19 =>
  pk (pfield r1 4 1) S19 fun r20 =>
  pk (ld1 S19 r20) S19 fun r21 =>
  pk (pfield r3 4 1) S19 fun r22 =>
  pe (storeA 1 r22 r21 S19) fun r23 S23 =>
  pk (pfield r1 5 1) S23 fun r24 =>
  pk (ld1 S23 r24) S23 fun r25 =>
  pq (call0 run 191 [r25] S23) fun r26 =>
  pk (pfield r3 5 1) S23 fun r27 =>
  pe (storeA 1 r27 r26 S23) fun r28 S28 =>
  pk (pfield r1 6 1) S28 fun r29 =>
  pk (ld1 S28 r29) S28 fun r30 =>
  pq (call0 run 60 [r30] S28) fun r31 =>
  pk (pfield r3 6 1) S28 fun r32 =>
  pe (storeA 1 r32 r31 S28) fun r33 S33 =>
  pk (ldA S33 r3 7) S33 fun r34 =>
  pe (storeA 7 r2 r34 S33) fun r35 S35 =>
  (ldA S35 r2 7).map (·, S35)
theorem t124 (N d : Nat) (a0 : AV) (S : St) : R N (d + 1) 124 [a0] S = b124 (cfg N) (R N d) a0 S := by unfold R; kernel_rfl
def s62_0 (C : Cfg) (run : RunT) (a0 : AV) (r2 : AV) (l : List AV) (S : St) : Option AOut :=
  pk (alen a0) S fun r3 =>
  pk (bin2 Tryz.prog .lss 3 ((gd l 0)) r3) S fun r4 =>
  ifA r4
  (pk (pindex 7 a0 ((gd l 0)) S) S fun r5 =>
  pk (ldA S r5 7) S fun r6 =>
  pq (call0 run 124 [r6] S) fun r7 =>
  pk (pindex 7 r2 ((gd l 0)) S) S fun r8 =>
  pe (storeA 7 r8 r7 S) fun r9 S9 =>
  pk (abin Tryz.prog .add 3 ((gd l 0)) (AV.int .i64 1)) S9 fun r10 =>
  some (AOut.norm [r10] S9))
  (some (AOut.exit 0 [(gd l 0)] S))
def b62 (C : Cfg) (run : RunT) (a0 : AV) (S : St) : OA :=
  pk (alen a0) S fun r1 =>
  pe (amake Tryz.prog 31 r1 r1 S) fun r2 S2 =>
  (aloop (s62_0 C run a0 r2) C.N [AV.int .i64 0] S2).bind fun
  | AOut.norm _ _ => (none)
  | AOut.exit x11 l11 S11 => (if x11 = 0 then (some (r2, S11)) else (none))
  | AOut.ret l11 S11 => (some (AV.rsl false true [], S11))
theorem t62 (N d : Nat) (a0 : AV) (S : St) : R N (d + 1) 62 [a0] S = b62 (cfg N) (R N d) a0 S := by unfold R; kernel_rfl
def b173 (C : Cfg) (run : RunT) (a0 : AV) (S : St) : OA :=
  pe (boxA a0 S) fun r1 S1 =>
  pe (some (newBox S1 [AV.int .i64 0, AV.str ⟨#[]⟩, AV.int .i64 0, AV.int .i64 0, AV.bool false, AV.bool false])) fun r2 S2 =>
  pe (some (newBox S2 [AV.int .i64 0, AV.str ⟨#[]⟩, AV.int .i64 0, AV.int .i64 0, AV.bool false, AV.bool false])) fun r3 S3 =>
  pk (pfield r1 0 1) S3 fun r4 =>
  pk (ld1 S3 r4) S3 fun r5 =>
  pk (pfield r3 0 1) S3 fun r6 =>
  pe (storeA 1 r6 r5 S3) fun r7 S7 =>
  pk (pfield r1 1 1) S7 fun r8 =>
  pk (ld1 S7 r8) S7 fun r9 =>
  pk (pfield r3 1 1) S7 fun r10 =>
  pe (storeA 1 r10 r9 S7) fun r11 S11 =>
  pk (pfield r1 2 1) S11 fun r12 =>
  pk (ld1 S11 r12) S11 fun r13 =>
  pk (pfield r3 2 1) S11 fun r14 =>
  pe (storeA 1 r14 r13 S11) fun r15 S15 =>
  pk (pfield r1 3 1) S15 fun r16 =>
  pk (ld1 S15 r16) S15 fun r17 =>
  pk (pfield r3 3 1) S15 fun r18 =>
  pe (storeA 1 r18 r17 S15) fun r19 S19 =>
  pk (pfield r1 4 1) S19 fun r20 =>
  pk (ld1 S19 r20) S19 fun r21 =>
  pk (pfield r3 4 1) S19 fun r22 =>
  pe (storeA 1 r22 r21 S19) fun r23 S23 =>
  pk (pfield r1 5 1) S23 fun r24 =>
  pk (ld1 S23 r24) S23 fun r25 =>
  pk (pfield r3 5 1) S23 fun r26 =>
  pe (storeA 1 r26 r25 S23) fun r27 S27 =>
  pk (ldA S27 r3 6) S27 fun r28 =>
  pe (storeA 6 r2 r28 S27) fun r29 S29 =>
  (ldA S29 r2 6).map (·, S29)
theorem t173 (N d : Nat) (a0 : AV) (S : St) : R N (d + 1) 173 [a0] S = b173 (cfg N) (R N d) a0 S := by unfold R; kernel_rfl
def s108_0 (C : Cfg) (run : RunT) (a0 : AV) (r2 : AV) (l : List AV) (S : St) : Option AOut :=
  pk (alen a0) S fun r3 =>
  pk (bin2 Tryz.prog .lss 3 ((gd l 0)) r3) S fun r4 =>
  ifA r4
  (pk (pindex 6 a0 ((gd l 0)) S) S fun r5 =>
  pk (ldA S r5 6) S fun r6 =>
  pq (call0 run 173 [r6] S) fun r7 =>
  pk (pindex 6 r2 ((gd l 0)) S) S fun r8 =>
  pe (storeA 6 r8 r7 S) fun r9 S9 =>
  pk (abin Tryz.prog .add 3 ((gd l 0)) (AV.int .i64 1)) S9 fun r10 =>
  some (AOut.norm [r10] S9))
  (some (AOut.exit 0 [(gd l 0)] S))
def b108 (C : Cfg) (run : RunT) (a0 : AV) (S : St) : OA :=
  pk (alen a0) S fun r1 =>
  pe (amake Tryz.prog 63 r1 r1 S) fun r2 S2 =>
  (aloop (s108_0 C run a0 r2) C.N [AV.int .i64 0] S2).bind fun
  | AOut.norm _ _ => (none)
  | AOut.exit x11 l11 S11 => (if x11 = 0 then (some (r2, S11)) else (none))
  | AOut.ret l11 S11 => (some (AV.rsl false true [], S11))
theorem t108 (N d : Nat) (a0 : AV) (S : St) : R N (d + 1) 108 [a0] S = b108 (cfg N) (R N d) a0 S := by unfold R; kernel_rfl
def b44 (C : Cfg) (run : RunT) (a0 : AV) (S : St) : OA :=
  pe (boxA a0 S) fun r1 S1 =>
  pe (some (newBox S1 [AV.int .i64 0, AV.int .i64 0, AV.int .i64 0, AV.rsl false true []])) fun r2 S2 =>
  pe (some (newBox S2 [AV.int .i64 0, AV.int .i64 0, AV.int .i64 0, AV.rsl false true []])) fun r3 S3 =>
  pk (pfield r1 0 1) S3 fun r4 =>
  pk (ld1 S3 r4) S3 fun r5 =>
  pk (pfield r3 0 1) S3 fun r6 =>
  pe (storeA 1 r6 r5 S3) fun r7 S7 =>
  pk (pfield r1 1 1) S7 fun r8 =>
  pk (ld1 S7 r8) S7 fun r9 =>
  pk (pfield r3 1 1) S7 fun r10 =>
  pe (storeA 1 r10 r9 S7) fun r11 S11 =>
  pk (pfield r1 2 1) S11 fun r12 =>
  pk (ld1 S11 r12) S11 fun r13 =>
  pk (pfield r3 2 1) S11 fun r14 =>
  pe (storeA 1 r14 r13 S11) fun r15 S15 =>
  pk (pfield r1 3 1) S15 fun r16 =>
  pk (ld1 S15 r16) S15 fun r17 =>
  pq (call0 run 108 [r17] S15) fun r18 =>
  pk (pfield r3 3 1) S15 fun r19 =>
  pe (storeA 1 r19 r18 S15) fun r20 S20 =>
  pk (ldA S20 r3 4) S20 fun r21 =>
  pe (storeA 4 r2 r21 S20) fun r22 S22 =>
  (ldA S22 r2 4).map (·, S22)
theorem t44 (N d : Nat) (a0 : AV) (S : St) : R N (d + 1) 44 [a0] S = b44 (cfg N) (R N d) a0 S := by unfold R; kernel_rfl
def s63_0 (C : Cfg) (run : RunT) (a0 : AV) (r2 : AV) (l : List AV) (S : St) : Option AOut :=
  pk (alen a0) S fun r3 =>
  pk (bin2 Tryz.prog .lss 3 ((gd l 0)) r3) S fun r4 =>
  ifA r4
  (pk (pindex 4 a0 ((gd l 0)) S) S fun r5 =>
  pk (ldA S r5 4) S fun r6 =>
  pq (call0 run 44 [r6] S) fun r7 =>
  pk (pindex 4 r2 ((gd l 0)) S) S fun r8 =>
  pe (storeA 4 r8 r7 S) fun r9 S9 =>
  pk (abin Tryz.prog .add 3 ((gd l 0)) (AV.int .i64 1)) S9 fun r10 =>
  some (AOut.norm [r10] S9))
  (some (AOut.exit 0 [(gd l 0)] S))
def b63 (C : Cfg) (run : RunT) (a0 : AV) (S : St) : OA :=
  pk (alen a0) S fun r1 =>
  pe (amake Tryz.prog 32 r1 r1 S) fun r2 S2 =>
  (aloop (s63_0 C run a0 r2) C.N [AV.int .i64 0] S2).bind fun
  | AOut.norm _ _ => (none)
  | AOut.exit x11 l11 S11 => (if x11 = 0 then (some (r2, S11)) else (none))
  | AOut.ret l11 S11 => (some (AV.rsl false true [], S11))
theorem t63 (N d : Nat) (a0 : AV) (S : St) : R N (d + 1) 63 [a0] S = b63 (cfg N) (R N d) a0 S := by unfold R; kernel_rfl
def b17 (C : Cfg) (run : RunT) (a0 : AV) (S : St) : OA :=
  pe (boxA a0 S) fun r1 S1 =>
  pe (some (newBox S1 [AV.int .i64 0, AV.rsl false true [], AV.rsl false true [], AV.rsl false true [], AV.rsl false true []])) fun r2 S2 =>
  pe (some (newBox S2 [AV.int .i64 0, AV.rsl false true [], AV.rsl false true [], AV.rsl false true [], AV.rsl false true []])) fun r3 S3 =>
  pk (pfield r1 0 1) S3 fun r4 =>
  pk (ld1 S3 r4) S3 fun r5 =>
  pk (pfield r3 0 1) S3 fun r6 =>
  pe (storeA 1 r6 r5 S3) fun r7 S7 =>
  pk (pfield r1 1 1) S7 fun r8 =>
  pk (ld1 S7 r8) S7 fun r9 =>
  pq (call0 run 60 [r9] S7) fun r10 =>
  pk (pfield r3 1 1) S7 fun r11 =>
  pe (storeA 1 r11 r10 S7) fun r12 S12 =>
  pk (pfield r1 2 1) S12 fun r13 =>
  pk (ld1 S12 r13) S12 fun r14 =>
  pq (call0 run 61 [r14] S12) fun r15 =>
  pk (pfield r3 2 1) S12 fun r16 =>
  pe (storeA 1 r16 r15 S12) fun r17 S17 =>
  pk (pfield r1 3 1) S17 fun r18 =>
  pk (ld1 S17 r18) S17 fun r19 =>
  pq (call0 run 62 [r19] S17) fun r20 =>
  pk (pfield r3 3 1) S17 fun r21 =>
  pe (storeA 1 r21 r20 S17) fun r22 S22 =>
  pk (pfield r1 4 1) S22 fun r23 =>
  pk (ld1 S22 r23) S22 fun r24 =>
  pq (call0 run 63 [r24] S22) fun r25 =>
  pk (pfield r3 4 1) S22 fun r26 =>
  pe (storeA 1 r26 r25 S22) fun r27 S27 =>
  pk (ldA S27 r3 5) S27 fun r28 =>
  pe (storeA 5 r2 r28 S27) fun r29 S29 =>
  (ldA S29 r2 5).map (·, S29)
theorem t17 (N d : Nat) (a0 : AV) (S : St) : R N (d + 1) 17 [a0] S = b17 (cfg N) (R N d) a0 S := by unfold R; kernel_rfl
def s72_0 (C : Cfg) (run : RunT) (a0 : AV) (a1 : AV) (l : List AV) (S : St) : Option AOut :=
  pk (alen a0) S fun r4 =>
  pk (bin2 Tryz.prog .lss 3 ((gd l 1)) r4) S fun r5 =>
  ifA r5
  (pk (pindex 1 a0 ((gd l 1)) S) S fun r6 =>
  pk (ld1 S r6) S fun r7 =>
  pk (pindex 1 a1 ((gd l 1)) S) S fun r8 =>
  pk (ld1 S r8) S fun r9 =>
  pk (bin2 Tryz.prog .neq 2 r7 r9) S fun r10 =>
  ifA r10
  (some (AOut.ret [AV.bool false, (gd l 1)] S))
  (pk (abin Tryz.prog .add 3 ((gd l 1)) (AV.int .i64 1)) S fun r11 =>
  some (AOut.norm [(gd l 0), r11] S)))
  (some (AOut.exit 0 [(gd l 0), (gd l 1)] S))
def b72 (C : Cfg) (run : RunT) (a0 a1 : AV) (S : St) : OA :=
  pk (alen a0) S fun r1 =>
  pk (alen a1) S fun r2 =>
  pk (bin2 Tryz.prog .neq 3 r1 r2) S fun r3 =>
  ifA r3
  (some (AV.bool false, S))
  ((aloop (s72_0 C run a0 a1) C.N [AV.bool false, AV.int .i64 0] S).bind fun
  | AOut.norm _ _ => (none)
  | AOut.exit x12 l12 S12 => (if x12 = 0 then (some (AV.bool true, S12)) else (none))
  | AOut.ret l12 S12 => (some ((gd l12 0), S12)))
theorem t72 (N d : Nat) (a0 a1 : AV) (S : St) : R N (d + 1) 72 [a0, a1] S = b72 (cfg N) (R N d) a0 a1 S := by unfold R; kernel_rfl
def b141 (C : Cfg) (run : RunT) (a0 a1 : AV) (S : St) : OA :=
  pe (boxA a0 S) fun r1 S1 =>
  pe (boxA a1 S1) fun r2 S2 =>
  pk (pfield r1 0 1) S2 fun r3 =>
  pk (ld1 S2 r3) S2 fun r4 =>
  pk (pfield r2 0 1) S2 fun r5 =>
  pk (ld1 S2 r5) S2 fun r6 =>
  pk (bin2 Tryz.prog .neq 2 r4 r6) S2 fun r7 =>
  ifA r7
  (some (AV.bool false, S2))
  (pk (pfield r1 1 1) S2 fun r8 =>
  pk (ld1 S2 r8) S2 fun r9 =>
  pk (pfield r2 1 1) S2 fun r10 =>
  pk (ld1 S2 r10) S2 fun r11 =>
  pk (bin2 Tryz.prog .neq 2 r9 r11) S2 fun r12 =>
  ifA r12
  (some (AV.bool false, S2))
  (pk (pfield r1 2 1) S2 fun r13 =>
  pk (ld1 S2 r13) S2 fun r14 =>
  pk (pfield r2 2 1) S2 fun r15 =>
  pk (ld1 S2 r15) S2 fun r16 =>
  pk (bin2 Tryz.prog .neq 2 r14 r16) S2 fun r17 =>
  ifA r17
  (some (AV.bool false, S2))
  (pk (pfield r1 3 1) S2 fun r18 =>
  pk (ld1 S2 r18) S2 fun r19 =>
  pk (pfield r2 3 1) S2 fun r20 =>
  pk (ld1 S2 r20) S2 fun r21 =>
  pk (bin2 Tryz.prog .neq 2 r19 r21) S2 fun r22 =>
  ifA r22
  (some (AV.bool false, S2))
  (some (AV.bool true, S2)))))
theorem t141 (N d : Nat) (a0 a1 : AV) (S : St) : R N (d + 1) 141 [a0, a1] S = b141 (cfg N) (R N d) a0 a1 S := by unfold R; kernel_rfl
def s73_0 (C : Cfg) (run : RunT) (a0 : AV) (a1 : AV) (l : List AV) (S : St) : Option AOut :=
  pk (alen a0) S fun r4 =>
  pk (bin2 Tryz.prog .lss 3 ((gd l 1)) r4) S fun r5 =>
  ifA r5
  (pk (pindex 4 a0 ((gd l 1)) S) S fun r6 =>
  pk (ldA S r6 4) S fun r7 =>
  pk (pindex 4 a1 ((gd l 1)) S) S fun r8 =>
  pk (ldA S r8 4) S fun r9 =>
  pq (call0 run 141 [r7, r9] S) fun r10 =>
  pk (aun .not r10) S fun r11 =>
  ifA r11
  (some (AOut.ret [AV.bool false, (gd l 1)] S))
  (pk (abin Tryz.prog .add 3 ((gd l 1)) (AV.int .i64 1)) S fun r12 =>
  some (AOut.norm [(gd l 0), r12] S)))
  (some (AOut.exit 0 [(gd l 0), (gd l 1)] S))
def b73 (C : Cfg) (run : RunT) (a0 a1 : AV) (S : St) : OA :=
  pk (alen a0) S fun r1 =>
  pk (alen a1) S fun r2 =>
  pk (bin2 Tryz.prog .neq 3 r1 r2) S fun r3 =>
  ifA r3
  (some (AV.bool false, S))
  ((aloop (s73_0 C run a0 a1) C.N [AV.bool false, AV.int .i64 0] S).bind fun
  | AOut.norm _ _ => (none)
  | AOut.exit x13 l13 S13 => (if x13 = 0 then (some (AV.bool true, S13)) else (none))
  | AOut.ret l13 S13 => (some ((gd l13 0), S13)))
theorem t73 (N d : Nat) (a0 a1 : AV) (S : St) : R N (d + 1) 73 [a0, a1] S = b73 (cfg N) (R N d) a0 a1 S := by unfold R; kernel_rfl
def b238 (C : Cfg) (run : RunT) (a0 a1 : AV) (S : St) : OA :=
  pe (boxA a0 S) fun r1 S1 =>
  pe (boxA a1 S1) fun r2 S2 =>
  pk (pfield r1 0 1) S2 fun r3 =>
  pk (ld1 S2 r3) S2 fun r4 =>
  pk (pfield r2 0 1) S2 fun r5 =>
  pk (ld1 S2 r5) S2 fun r6 =>
  pk (bin2 Tryz.prog .neq 2 r4 r6) S2 fun r7 =>
  ifA r7
  (some (AV.bool false, S2))
  (pk (pfield r1 1 1) S2 fun r8 =>
  pk (ld1 S2 r8) S2 fun r9 =>
  pk (pfield r2 1 1) S2 fun r10 =>
  pk (ld1 S2 r10) S2 fun r11 =>
  pk (bin2 Tryz.prog .neq 2 r9 r11) S2 fun r12 =>
  ifA r12
  (some (AV.bool false, S2))
  (pk (pfield r1 2 1) S2 fun r13 =>
  pk (ld1 S2 r13) S2 fun r14 =>
  pk (pfield r2 2 1) S2 fun r15 =>
  pk (ld1 S2 r15) S2 fun r16 =>
  pk (bin2 Tryz.prog .neq 2 r14 r16) S2 fun r17 =>
  ifA r17
  (some (AV.bool false, S2))
  (some (AV.bool true, S2))))
theorem t238 (N d : Nat) (a0 a1 : AV) (S : St) : R N (d + 1) 238 [a0, a1] S = b238 (cfg N) (R N d) a0 a1 S := by unfold R; kernel_rfl
def s206_0 (C : Cfg) (run : RunT) (a0 : AV) (a1 : AV) (l : List AV) (S : St) : Option AOut :=
  pk (alen a0) S fun r4 =>
  pk (bin2 Tryz.prog .lss 3 ((gd l 1)) r4) S fun r5 =>
  ifA r5
  (pk (pindex 3 a0 ((gd l 1)) S) S fun r6 =>
  pk (ldA S r6 3) S fun r7 =>
  pk (pindex 3 a1 ((gd l 1)) S) S fun r8 =>
  pk (ldA S r8 3) S fun r9 =>
  pq (call0 run 238 [r7, r9] S) fun r10 =>
  pk (aun .not r10) S fun r11 =>
  ifA r11
  (some (AOut.ret [AV.bool false, (gd l 1)] S))
  (pk (abin Tryz.prog .add 3 ((gd l 1)) (AV.int .i64 1)) S fun r12 =>
  some (AOut.norm [(gd l 0), r12] S)))
  (some (AOut.exit 0 [(gd l 0), (gd l 1)] S))
def b206 (C : Cfg) (run : RunT) (a0 a1 : AV) (S : St) : OA :=
  pk (alen a0) S fun r1 =>
  pk (alen a1) S fun r2 =>
  pk (bin2 Tryz.prog .neq 3 r1 r2) S fun r3 =>
  ifA r3
  (some (AV.bool false, S))
  ((aloop (s206_0 C run a0 a1) C.N [AV.bool false, AV.int .i64 0] S).bind fun
  | AOut.norm _ _ => (none)
  | AOut.exit x13 l13 S13 => (if x13 = 0 then (some (AV.bool true, S13)) else (none))
  | AOut.ret l13 S13 => (some ((gd l13 0), S13)))
theorem t206 (N d : Nat) (a0 a1 : AV) (S : St) : R N (d + 1) 206 [a0, a1] S = b206 (cfg N) (R N d) a0 a1 S := by unfold R; kernel_rfl
def b142 (C : Cfg) (run : RunT) (a0 a1 : AV) (S : St) : OA :=
  pe (boxA a0 S) fun r1 S1 =>
  pe (boxA a1 S1) fun r2 S2 =>
  pk (pfield r1 0 1) S2 fun r3 =>
  pk (ld1 S2 r3) S2 fun r4 =>
  pk (pfield r2 0 1) S2 fun r5 =>
  pk (ld1 S2 r5) S2 fun r6 =>
  pk (bin2 Tryz.prog .neq 2 r4 r6) S2 fun r7 =>
  ifA r7
  (some (AV.bool false, S2))
  (pk (pfield r1 1 1) S2 fun r8 =>
  pk (ld1 S2 r8) S2 fun r9 =>
  pk (pfield r2 1 1) S2 fun r10 =>
  pk (ld1 S2 r10) S2 fun r11 =>
  pk (bin2 Tryz.prog .neq 2 r9 r11) S2 fun r12 =>
  ifA r12
  (some (AV.bool false, S2))
  (pk (pfield r1 2 1) S2 fun r13 =>
  pk (ld1 S2 r13) S2 fun r14 =>
  pk (pfield r2 2 1) S2 fun r15 =>
  pk (ld1 S2 r15) S2 fun r16 =>
  pk (bin2 Tryz.prog .neq 2 r14 r16) S2 fun r17 =>
  ifA r17
  (some (AV.bool false, S2))
  (pk (pfield r1 3 1) S2 fun r18 =>
  pk (ld1 S2 r18) S2 fun r19 =>
  pk (pfield r2 3 1) S2 fun r20 =>
  pk (ld1 S2 r20) S2 fun r21 =>
  pk (bin2 Tryz.prog .neq 2 r19 r21) S2 fun r22 =>
  ifA r22
  (some (AV.bool false, S2))
  (pk (pfield r1 4 1) S2 fun r23 =>
  pk (ld1 S2 r23) S2 fun r24 =>
  pk (pfield r2 4 1) S2 fun r25 =>
  pk (ld1 S2 r25) S2 fun r26 =>
  pk (bin2 Tryz.prog .neq 2 r24 r26) S2 fun r27 =>
  ifA r27
  (some (AV.bool false, S2))
  (pk (pfield r1 5 1) S2 fun r28 =>
  pk (ld1 S2 r28) S2 fun r29 =>
  pk (pfield r2 5 1) S2 fun r30 =>
  pk (ld1 S2 r30) S2 fun r31 =>
  pq (call0 run 206 [r29, r31] S2) fun r32 =>
  pk (aun .not r32) S2 fun r33 =>
  ifA r33
  (some (AV.bool false, S2))
  (pk (pfield r1 6 1) S2 fun r34 =>
  pk (ld1 S2 r34) S2 fun r35 =>
  pk (pfield r2 6 1) S2 fun r36 =>
  pk (ld1 S2 r36) S2 fun r37 =>
  pq (call0 run 72 [r35, r37] S2) fun r38 =>
  pk (aun .not r38) S2 fun r39 =>
  ifA r39
  (some (AV.bool false, S2))
  (some (AV.bool true, S2))))))))
theorem t142 (N d : Nat) (a0 a1 : AV) (S : St) : R N (d + 1) 142 [a0, a1] S = b142 (cfg N) (R N d) a0 a1 S := by unfold R; kernel_rfl
def s74_0 (C : Cfg) (run : RunT) (a0 : AV) (a1 : AV) (l : List AV) (S : St) : Option AOut :=
  pk (alen a0) S fun r4 =>
  pk (bin2 Tryz.prog .lss 3 ((gd l 1)) r4) S fun r5 =>
  ifA r5
  (pk (pindex 7 a0 ((gd l 1)) S) S fun r6 =>
  pk (ldA S r6 7) S fun r7 =>
  pk (pindex 7 a1 ((gd l 1)) S) S fun r8 =>
  pk (ldA S r8 7) S fun r9 =>
  pq (call0 run 142 [r7, r9] S) fun r10 =>
  pk (aun .not r10) S fun r11 =>
  ifA r11
  (some (AOut.ret [AV.bool false, (gd l 1)] S))
  (pk (abin Tryz.prog .add 3 ((gd l 1)) (AV.int .i64 1)) S fun r12 =>
  some (AOut.norm [(gd l 0), r12] S)))
  (some (AOut.exit 0 [(gd l 0), (gd l 1)] S))
def b74 (C : Cfg) (run : RunT) (a0 a1 : AV) (S : St) : OA :=
  pk (alen a0) S fun r1 =>
  pk (alen a1) S fun r2 =>
  pk (bin2 Tryz.prog .neq 3 r1 r2) S fun r3 =>
  ifA r3
  (some (AV.bool false, S))
  ((aloop (s74_0 C run a0 a1) C.N [AV.bool false, AV.int .i64 0] S).bind fun
  | AOut.norm _ _ => (none)
  | AOut.exit x13 l13 S13 => (if x13 = 0 then (some (AV.bool true, S13)) else (none))
  | AOut.ret l13 S13 => (some ((gd l13 0), S13)))
theorem t74 (N d : Nat) (a0 a1 : AV) (S : St) : R N (d + 1) 74 [a0, a1] S = b74 (cfg N) (R N d) a0 a1 S := by unfold R; kernel_rfl
def b175 (C : Cfg) (run : RunT) (a0 a1 : AV) (S : St) : OA :=
  pe (boxA a0 S) fun r1 S1 =>
  pe (boxA a1 S1) fun r2 S2 =>
  pk (pfield r1 0 1) S2 fun r3 =>
  pk (ld1 S2 r3) S2 fun r4 =>
  pk (pfield r2 0 1) S2 fun r5 =>
  pk (ld1 S2 r5) S2 fun r6 =>
  pk (bin2 Tryz.prog .neq 2 r4 r6) S2 fun r7 =>
  ifA r7
  (some (AV.bool false, S2))
  (pk (pfield r1 1 1) S2 fun r8 =>
  pk (ld1 S2 r8) S2 fun r9 =>
  pk (pfield r2 1 1) S2 fun r10 =>
  pk (ld1 S2 r10) S2 fun r11 =>
  pk (bin2 Tryz.prog .neq 9 r9 r11) S2 fun r12 =>
  ifA r12
  (some (AV.bool false, S2))
  (pk (pfield r1 2 1) S2 fun r13 =>
  pk (ld1 S2 r13) S2 fun r14 =>
  pk (pfield r2 2 1) S2 fun r15 =>
  pk (ld1 S2 r15) S2 fun r16 =>
  pk (bin2 Tryz.prog .neq 2 r14 r16) S2 fun r17 =>
  ifA r17
  (some (AV.bool false, S2))
  (pk (pfield r1 3 1) S2 fun r18 =>
  pk (ld1 S2 r18) S2 fun r19 =>
  pk (pfield r2 3 1) S2 fun r20 =>
  pk (ld1 S2 r20) S2 fun r21 =>
  pk (bin2 Tryz.prog .neq 2 r19 r21) S2 fun r22 =>
  ifA r22
  (some (AV.bool false, S2))
  (pk (pfield r1 4 1) S2 fun r23 =>
  pk (ld1 S2 r23) S2 fun r24 =>
  pk (pfield r2 4 1) S2 fun r25 =>
  pk (ld1 S2 r25) S2 fun r26 =>
  pk (bin2 Tryz.prog .neq 4 r24 r26) S2 fun r27 =>
  ifA r27
  (some (AV.bool false, S2))
  (pk (pfield r1 5 1) S2 fun r28 =>
  pk (ld1 S2 r28) S2 fun r29 =>
  pk (pfield r2 5 1) S2 fun r30 =>
  pk (ld1 S2 r30) S2 fun r31 =>
  pk (bin2 Tryz.prog .neq 4 r29 r31) S2 fun r32 =>
  ifA r32
  (some (AV.bool false, S2))
  (some (AV.bool true, S2)))))))
theorem t175 (N d : Nat) (a0 a1 : AV) (S : St) : R N (d + 1) 175 [a0, a1] S = b175 (cfg N) (R N d) a0 a1 S := by unfold R; kernel_rfl
def s112_0 (C : Cfg) (run : RunT) (a0 : AV) (a1 : AV) (l : List AV) (S : St) : Option AOut :=
  pk (alen a0) S fun r4 =>
  pk (bin2 Tryz.prog .lss 3 ((gd l 1)) r4) S fun r5 =>
  ifA r5
  (pk (pindex 6 a0 ((gd l 1)) S) S fun r6 =>
  pk (ldA S r6 6) S fun r7 =>
  pk (pindex 6 a1 ((gd l 1)) S) S fun r8 =>
  pk (ldA S r8 6) S fun r9 =>
  pq (call0 run 175 [r7, r9] S) fun r10 =>
  pk (aun .not r10) S fun r11 =>
  ifA r11
  (some (AOut.ret [AV.bool false, (gd l 1)] S))
  (pk (abin Tryz.prog .add 3 ((gd l 1)) (AV.int .i64 1)) S fun r12 =>
  some (AOut.norm [(gd l 0), r12] S)))
  (some (AOut.exit 0 [(gd l 0), (gd l 1)] S))
def b112 (C : Cfg) (run : RunT) (a0 a1 : AV) (S : St) : OA :=
  pk (alen a0) S fun r1 =>
  pk (alen a1) S fun r2 =>
  pk (bin2 Tryz.prog .neq 3 r1 r2) S fun r3 =>
  ifA r3
  (some (AV.bool false, S))
  ((aloop (s112_0 C run a0 a1) C.N [AV.bool false, AV.int .i64 0] S).bind fun
  | AOut.norm _ _ => (none)
  | AOut.exit x13 l13 S13 => (if x13 = 0 then (some (AV.bool true, S13)) else (none))
  | AOut.ret l13 S13 => (some ((gd l13 0), S13)))
theorem t112 (N d : Nat) (a0 a1 : AV) (S : St) : R N (d + 1) 112 [a0, a1] S = b112 (cfg N) (R N d) a0 a1 S := by unfold R; kernel_rfl
def b47 (C : Cfg) (run : RunT) (a0 a1 : AV) (S : St) : OA :=
  pe (boxA a0 S) fun r1 S1 =>
  pe (boxA a1 S1) fun r2 S2 =>
  pk (pfield r1 0 1) S2 fun r3 =>
  pk (ld1 S2 r3) S2 fun r4 =>
  pk (pfield r2 0 1) S2 fun r5 =>
  pk (ld1 S2 r5) S2 fun r6 =>
  pk (bin2 Tryz.prog .neq 2 r4 r6) S2 fun r7 =>
  ifA r7
  (some (AV.bool false, S2))
  (pk (pfield r1 1 1) S2 fun r8 =>
  pk (ld1 S2 r8) S2 fun r9 =>
  pk (pfield r2 1 1) S2 fun r10 =>
  pk (ld1 S2 r10) S2 fun r11 =>
  pk (bin2 Tryz.prog .neq 2 r9 r11) S2 fun r12 =>
  ifA r12
  (some (AV.bool false, S2))
  (pk (pfield r1 2 1) S2 fun r13 =>
  pk (ld1 S2 r13) S2 fun r14 =>
  pk (pfield r2 2 1) S2 fun r15 =>
  pk (ld1 S2 r15) S2 fun r16 =>
  pk (bin2 Tryz.prog .neq 2 r14 r16) S2 fun r17 =>
  ifA r17
  (some (AV.bool false, S2))
  (pk (pfield r1 3 1) S2 fun r18 =>
  pk (ld1 S2 r18) S2 fun r19 =>
  pk (pfield r2 3 1) S2 fun r20 =>
  pk (ld1 S2 r20) S2 fun r21 =>
  pq (call0 run 112 [r19, r21] S2) fun r22 =>
  pk (aun .not r22) S2 fun r23 =>
  ifA r23
  (some (AV.bool false, S2))
  (some (AV.bool true, S2)))))
theorem t47 (N d : Nat) (a0 a1 : AV) (S : St) : R N (d + 1) 47 [a0, a1] S = b47 (cfg N) (R N d) a0 a1 S := by unfold R; kernel_rfl
def s75_0 (C : Cfg) (run : RunT) (a0 : AV) (a1 : AV) (l : List AV) (S : St) : Option AOut :=
  pk (alen a0) S fun r4 =>
  pk (bin2 Tryz.prog .lss 3 ((gd l 1)) r4) S fun r5 =>
  ifA r5
  (pk (pindex 4 a0 ((gd l 1)) S) S fun r6 =>
  pk (ldA S r6 4) S fun r7 =>
  pk (pindex 4 a1 ((gd l 1)) S) S fun r8 =>
  pk (ldA S r8 4) S fun r9 =>
  pq (call0 run 47 [r7, r9] S) fun r10 =>
  pk (aun .not r10) S fun r11 =>
  ifA r11
  (some (AOut.ret [AV.bool false, (gd l 1)] S))
  (pk (abin Tryz.prog .add 3 ((gd l 1)) (AV.int .i64 1)) S fun r12 =>
  some (AOut.norm [(gd l 0), r12] S)))
  (some (AOut.exit 0 [(gd l 0), (gd l 1)] S))
def b75 (C : Cfg) (run : RunT) (a0 a1 : AV) (S : St) : OA :=
  pk (alen a0) S fun r1 =>
  pk (alen a1) S fun r2 =>
  pk (bin2 Tryz.prog .neq 3 r1 r2) S fun r3 =>
  ifA r3
  (some (AV.bool false, S))
  ((aloop (s75_0 C run a0 a1) C.N [AV.bool false, AV.int .i64 0] S).bind fun
  | AOut.norm _ _ => (none)
  | AOut.exit x13 l13 S13 => (if x13 = 0 then (some (AV.bool true, S13)) else (none))
  | AOut.ret l13 S13 => (some ((gd l13 0), S13)))
theorem t75 (N d : Nat) (a0 a1 : AV) (S : St) : R N (d + 1) 75 [a0, a1] S = b75 (cfg N) (R N d) a0 a1 S := by unfold R; kernel_rfl
def b19 (C : Cfg) (run : RunT) (a0 a1 : AV) (S : St) : OA :=
  pe (boxA a0 S) fun r1 S1 =>
  pe (boxA a1 S1) fun r2 S2 =>
  pk (pfield r1 0 1) S2 fun r3 =>
  pk (ld1 S2 r3) S2 fun r4 =>
  pk (pfield r2 0 1) S2 fun r5 =>
  pk (ld1 S2 r5) S2 fun r6 =>
  pk (bin2 Tryz.prog .neq 2 r4 r6) S2 fun r7 =>
  ifA r7
  (some (AV.bool false, S2))
  (pk (pfield r1 1 1) S2 fun r8 =>
  pk (ld1 S2 r8) S2 fun r9 =>
  pk (pfield r2 1 1) S2 fun r10 =>
  pk (ld1 S2 r10) S2 fun r11 =>
  pq (call0 run 72 [r9, r11] S2) fun r12 =>
  pk (aun .not r12) S2 fun r13 =>
  ifA r13
  (some (AV.bool false, S2))
  (pk (pfield r1 2 1) S2 fun r14 =>
  pk (ld1 S2 r14) S2 fun r15 =>
  pk (pfield r2 2 1) S2 fun r16 =>
  pk (ld1 S2 r16) S2 fun r17 =>
  pq (call0 run 73 [r15, r17] S2) fun r18 =>
  pk (aun .not r18) S2 fun r19 =>
  ifA r19
  (some (AV.bool false, S2))
  (pk (pfield r1 3 1) S2 fun r20 =>
  pk (ld1 S2 r20) S2 fun r21 =>
  pk (pfield r2 3 1) S2 fun r22 =>
  pk (ld1 S2 r22) S2 fun r23 =>
  pq (call0 run 74 [r21, r23] S2) fun r24 =>
  pk (aun .not r24) S2 fun r25 =>
  ifA r25
  (some (AV.bool false, S2))
  (pk (pfield r1 4 1) S2 fun r26 =>
  pk (ld1 S2 r26) S2 fun r27 =>
  pk (pfield r2 4 1) S2 fun r28 =>
  pk (ld1 S2 r28) S2 fun r29 =>
  pq (call0 run 75 [r27, r29] S2) fun r30 =>
  pk (aun .not r30) S2 fun r31 =>
  ifA r31
  (some (AV.bool false, S2))
  (some (AV.bool true, S2))))))
theorem t19 (N d : Nat) (a0 a1 : AV) (S : St) : R N (d + 1) 19 [a0, a1] S = b19 (cfg N) (R N d) a0 a1 S := by unfold R; kernel_rfl
def b169 (C : Cfg) (run : RunT) (a0 a1 a2 : AV) (S : St) : OA :=
  pk (bin2 Tryz.prog .geq 2 a0 a1) S fun r1 =>
  guardA r1 true
  (pk (bin2 Tryz.prog .leq 2 a0 a2) S fun r2 =>
  some (r2, S))
  (some (AV.bool false, S))
theorem t169 (N d : Nat) (a0 a1 a2 : AV) (S : St) : R N (d + 1) 169 [a0, a1, a2] S = b169 (cfg N) (R N d) a0 a1 a2 S := by unfold R; kernel_rfl
def b168 (C : Cfg) (run : RunT) (a0 : AV) (S : St) : OA :=
  pq (call0 run 169 [a0, AV.int .i64 1, AV.int .i64 9] S) fun r1 =>
  some (r1, S)
theorem t168 (N d : Nat) (a0 : AV) (S : St) : R N (d + 1) 168 [a0] S = b168 (cfg N) (R N d) a0 S := by unfold R; kernel_rfl
def b170 (C : Cfg) (run : RunT) (a0 : AV) (S : St) : OA :=
  pq (call0 run 169 [a0, AV.int .i64 0, AV.int .i64 9000] S) fun r1 =>
  some (r1, S)
theorem t170 (N d : Nat) (a0 : AV) (S : St) : R N (d + 1) 170 [a0] S = b170 (cfg N) (R N d) a0 S := by unfold R; kernel_rfl
def b216 (C : Cfg) (run : RunT) (a0 : AV) (S : St) : OA :=
  pq (call0 run 169 [a0, AV.int .i64 3, AV.int .i64 8] S) fun r1 =>
  some (r1, S)
theorem t216 (N d : Nat) (a0 : AV) (S : St) : R N (d + 1) 216 [a0] S = b216 (cfg N) (R N d) a0 S := by unfold R; kernel_rfl
def b217 (C : Cfg) (run : RunT) (a0 : AV) (S : St) : OA :=
  pk (abin Tryz.prog .eql 2 a0 (AV.int .i64 3)) S fun r1 =>
  guardA r1 false
  (pk (abin Tryz.prog .eql 2 a0 (AV.int .i64 5)) S fun r2 =>
  some (r2, S))
  (some (AV.bool true, S))
theorem t217 (N d : Nat) (a0 : AV) (S : St) : R N (d + 1) 217 [a0] S = b217 (cfg N) (R N d) a0 S := by unfold R; kernel_rfl
def b218 (C : Cfg) (run : RunT) (a0 : AV) (S : St) : OA :=
  (pk (abin Tryz.prog .eql 2 a0 (AV.int .i64 4)) S fun r1 =>
  guardA r1 false
  (pk (abin Tryz.prog .eql 2 a0 (AV.int .i64 5)) S fun r2 =>
  guardA r2 false
  (pk (abin Tryz.prog .eql 2 a0 (AV.int .i64 8)) S fun r3 =>
  some (AOut.norm [r3] S))
  (some (AOut.norm [AV.bool true] S)))
  (some (AOut.norm [AV.bool true] S))).bind fun
  | AOut.norm l4 S4 => (some ((gd l4 0), S4))
  | AOut.exit x4 l4 S4 => (none)
  | AOut.ret l4 S4 => (some ((gd l4 0), S4))
theorem t218 (N d : Nat) (a0 : AV) (S : St) : R N (d + 1) 218 [a0] S = b218 (cfg N) (R N d) a0 S := by unfold R; kernel_rfl
def s254_0 (C : Cfg) (run : RunT) (a0 : AV) (a1 : AV) (l : List AV) (S : St) : Option AOut :=
  pk (slen a0) S fun r2 =>
  pk (bin2 Tryz.prog .leq 3 ((gd l 2)) r2) S fun r3 =>
  ifA r3
  ((pk (slen a0) S fun r4 =>
  pk (bin2 Tryz.prog .eql 3 ((gd l 2)) r4) S fun r5 =>
  guardA r5 false
  (pk (sindex a0 ((gd l 2))) S fun r6 =>
  pk (bin2 Tryz.prog .eql 5 r6 a1) S fun r7 =>
  ifA r7
  (pq (sliceS a0 (some ((gd l 1))) (some ((gd l 2))) none S) fun r8 =>
  pe (abuildS Tryz.prog 181 1 [(0, r8)] S) fun r9 S9 =>
  pe (appA 1 16 ((gd l 0)) r9 S9) fun r10 S10 =>
  pk (abin Tryz.prog .add 3 ((gd l 2)) (AV.int .i64 1)) S10 fun r11 =>
  some (AOut.norm [r10, r11] S10))
  (some (AOut.norm [(gd l 0), (gd l 1)] S)))
  (pq (sliceS a0 (some ((gd l 1))) (some ((gd l 2))) none S) fun r12 =>
  pe (abuildS Tryz.prog 181 1 [(0, r12)] S) fun r13 S13 =>
  pe (appA 1 16 ((gd l 0)) r13 S13) fun r14 S14 =>
  pk (abin Tryz.prog .add 3 ((gd l 2)) (AV.int .i64 1)) S14 fun r15 =>
  some (AOut.norm [r14, r15] S14))).bind fun
  | AOut.norm l16 S16 => (pk (abin Tryz.prog .add 3 ((gd l 2)) (AV.int .i64 1)) S16 fun r17 =>
  some (AOut.norm [(gd l16 0), (gd l16 1), r17] S16))
  | AOut.exit x16 l16 S16 => (some (AOut.exit x16 [(gd l16 0), (gd l16 1), (gd l 2)] S16))
  | AOut.ret l16 S16 => (some (AOut.ret [(gd l16 0), (gd l16 1), (gd l 2)] S16)))
  (some (AOut.exit 0 [(gd l 0), (gd l 1), (gd l 2)] S))
def b254 (C : Cfg) (run : RunT) (a0 a1 : AV) (S : St) : OA :=
  pe (abuildS Tryz.prog 181 0 [] S) fun r1 S1 =>
  (aloop (s254_0 C run a0 a1) C.N [r1, AV.int .i64 0, AV.int .i64 0] S1).bind fun
  | AOut.norm _ _ => (none)
  | AOut.exit x18 l18 S18 => (if x18 = 0 then (some ((gd l18 0), S18)) else (none))
  | AOut.ret l18 S18 => (some (AV.rsl false true [], S18))
theorem t254 (N d : Nat) (a0 a1 : AV) (S : St) : R N (d + 1) 254 [a0, a1] S = b254 (cfg N) (R N d) a0 a1 S := by unfold R; kernel_rfl
def s277_0 (C : Cfg) (run : RunT) (a0 : AV) (l : List AV) (S : St) : Option AOut :=
  pk (slen a0) S fun r1 =>
  pk (bin2 Tryz.prog .lss 3 ((gd l 1)) r1) S fun r2 =>
  ifA r2
  (((pk (sindex a0 ((gd l 1))) S fun r3 =>
  pk (abin Tryz.prog .lss 5 r3 (AV.int .u8 97)) S fun r4 =>
  guardA r4 false
  (pk (sindex a0 ((gd l 1))) S fun r5 =>
  pk (abin Tryz.prog .gtr 5 r5 (AV.int .u8 122)) S fun r6 =>
  guardA r6 true
  (pk (sindex a0 ((gd l 1))) S fun r7 =>
  pk (abin Tryz.prog .lss 5 r7 (AV.int .u8 48)) S fun r8 =>
  guardA r8 false
  (pk (sindex a0 ((gd l 1))) S fun r9 =>
  pk (abin Tryz.prog .gtr 5 r9 (AV.int .u8 57)) S fun r10 =>
  some (AOut.norm [r10] S))
  (some (AOut.norm [AV.bool true] S)))
  (some (AOut.norm [AV.bool false] S)))
  (pk (sindex a0 ((gd l 1))) S fun r11 =>
  pk (abin Tryz.prog .lss 5 r11 (AV.int .u8 48)) S fun r12 =>
  guardA r12 false
  (pk (sindex a0 ((gd l 1))) S fun r13 =>
  pk (abin Tryz.prog .gtr 5 r13 (AV.int .u8 57)) S fun r14 =>
  some (AOut.norm [r14] S))
  (some (AOut.norm [AV.bool true] S)))).bind fun
  | AOut.norm l15 S15 => (ifA ((gd l15 0))
  (some (AOut.ret [AV.bool false] S15))
  (some (AOut.norm [(gd l 0)] S15)))
  | AOut.exit x15 l15 S15 => (if x15 = 1 then (some (AOut.norm [(gd l 0)] S15)) else (some (AOut.exit x15 [(gd l 0)] S15)))
  | AOut.ret l15 S15 => (some (AOut.ret [(gd l 0)] S15))).bind fun
  | AOut.norm l16 S16 => (pk (abin Tryz.prog .add 3 ((gd l 1)) (AV.int .i64 1)) S16 fun r17 =>
  some (AOut.norm [(gd l16 0), r17] S16))
  | AOut.exit x16 l16 S16 => (some (AOut.exit x16 [(gd l16 0), (gd l 1)] S16))
  | AOut.ret l16 S16 => (some (AOut.ret [(gd l16 0), (gd l 1)] S16)))
  (some (AOut.exit 0 [(gd l 0), (gd l 1)] S))
def b277 (C : Cfg) (run : RunT) (a0 : AV) (S : St) : OA :=
  (aloop (s277_0 C run a0) C.N [AV.bool false, AV.int .i64 0] S).bind fun
  | AOut.norm _ _ => (none)
  | AOut.exit x18 l18 S18 => (if x18 = 0 then (pk (slen a0) S18 fun r19 =>
  pq (call0 run 169 [r19, AV.int .i64 1, AV.int .i64 8] S18) fun r20 =>
  some (r20, S18)) else (none))
  | AOut.ret l18 S18 => (some ((gd l18 0), S18))
theorem t277 (N d : Nat) (a0 : AV) (S : St) : R N (d + 1) 277 [a0] S = b277 (cfg N) (R N d) a0 S := by unfold R; kernel_rfl
def s255_0 (C : Cfg) (run : RunT) (r3 : AV) (l : List AV) (S : St) : Option AOut :=
  pk (alen r3) S fun r10 =>
  pk (bin2 Tryz.prog .lss 3 ((gd l 2)) r10) S fun r11 =>
  ifA r11
  (pk (pindex 1 r3 ((gd l 2)) S) S fun r12 =>
  pk (ld1 S r12) S fun r13 =>
  pq (call0 run 277 [r13] S) fun r14 =>
  pk (aun .not r14) S fun r15 =>
  ifA r15
  (some (AOut.ret [AV.rsl false true [], AV.bool false, (gd l 2)] S))
  (pk (abin Tryz.prog .add 3 ((gd l 2)) (AV.int .i64 1)) S fun r16 =>
  some (AOut.norm [(gd l 0), (gd l 1), r16] S)))
  (some (AOut.exit 0 [(gd l 0), (gd l 1), (gd l 2)] S))
def b255 (C : Cfg) (run : RunT) (a0 : AV) (S : St) : OA :=
  pk (abin Tryz.prog .eql 9 a0 (AV.str ⟨#[47]⟩)) S fun r1 =>
  ifA r1
  (pe (abuildS Tryz.prog 181 0 [] S) fun r2 S2 =>
  some (AV.tup [r2, AV.bool true], S2))
  (pq (call0 run 254 [a0, AV.int .u8 47] S) fun r3 =>
  (pk (alen r3) S fun r4 =>
  pk (abin Tryz.prog .lss 3 r4 (AV.int .i64 2)) S fun r5 =>
  guardA r5 false
  (pk (pindex 1 r3 (AV.int .i64 0) S) S fun r6 =>
  pk (ld1 S r6) S fun r7 =>
  pk (abin Tryz.prog .neq 9 r7 (AV.str ⟨#[]⟩)) S fun r8 =>
  ifA r8
  (some (AOut.ret [AV.rsl false true [], AV.bool false] S))
  (some (AOut.norm [AV.rsl false true [], AV.bool false] S)))
  (some (AOut.ret [AV.rsl false true [], AV.bool false] S))).bind fun
  | AOut.norm l9 S9 => ((aloop (s255_0 C run r3) C.N [(gd l9 0), (gd l9 1), AV.int .i64 1] S9).bind fun
  | AOut.norm _ _ => (none)
  | AOut.exit x17 l17 S17 => (if x17 = 0 then (pq (sliceA 1 r3 (some (AV.int .i64 1)) none none S17) fun r18 =>
  some (AV.tup [r18, AV.bool true], S17)) else (none))
  | AOut.ret l17 S17 => (some (AV.tup [(gd l17 0), (gd l17 1)], S17)))
  | AOut.exit x9 l9 S9 => (none)
  | AOut.ret l9 S9 => (some (AV.tup [(gd l9 0), (gd l9 1)], S9)))
theorem t255 (N d : Nat) (a0 : AV) (S : St) : R N (d + 1) 255 [a0] S = b255 (cfg N) (R N d) a0 S := by unfold R; kernel_rfl
def b219 (C : Cfg) (run : RunT) (a0 : AV) (S : St) : OA :=
  ((pk (slen a0) S fun r1 =>
  pk (abin Tryz.prog .gtr 3 r1 (AV.int .i64 24)) S fun r2 =>
  guardA r2 false
  (pk (abin Tryz.prog .neq 9 a0 (AV.str ⟨#[47]⟩)) S fun r3 =>
  guardA r3 true
  (pq (call0 run 254 [a0, AV.int .u8 47] S) fun r4 =>
  pk (alen r4) S fun r5 =>
  pk (abin Tryz.prog .gtr 3 r5 (AV.int .i64 5)) S fun r6 =>
  some (AOut.norm [r6] S))
  (some (AOut.norm [AV.bool false] S)))
  (some (AOut.norm [AV.bool true] S))).bind fun
  | AOut.norm l7 S7 => (ifA ((gd l7 0))
  (some (AOut.ret [AV.int .i64 2] S7))
  (some (AOut.norm [AV.int .i64 0] S7)))
  | AOut.exit x7 l7 S7 => (some (AOut.exit x7 [AV.int .i64 0] S7))
  | AOut.ret l7 S7 => (some (AOut.ret [AV.int .i64 0] S7))).bind fun
  | AOut.norm l8 S8 => (pq (call0 run 255 [a0] S8) fun r9 =>
  pq (extA r9 0 S8) fun r10 =>
  pq (extA r9 1 S8) fun r11 =>
  pk (aun .not r11) S8 fun r12 =>
  ifA r12
  (some (AV.int .i64 5, S8))
  (some (AV.int .i64 0, S8)))
  | AOut.exit x8 l8 S8 => (none)
  | AOut.ret l8 S8 => (some ((gd l8 0), S8))
theorem t219 (N d : Nat) (a0 : AV) (S : St) : R N (d + 1) 219 [a0] S = b219 (cfg N) (R N d) a0 S := by unfold R; kernel_rfl
def b220 (C : Cfg) (run : RunT) (a0 : AV) (S : St) : OA :=
  pq (call0 run 169 [a0, AV.int .i64 0, AV.int .i64 9999] S) fun r1 =>
  some (r1, S)
theorem t220 (N d : Nat) (a0 : AV) (S : St) : R N (d + 1) 220 [a0] S = b220 (cfg N) (R N d) a0 S := by unfold R; kernel_rfl
def b171 (C : Cfg) (run : RunT) (a0 : AV) (S : St) : OA :=
  pq (nilA a0 S) fun r1 =>
  pk (pfield r1 0 1) S fun r2 =>
  pk (ld1 S r2) S fun r3 =>
  pq (call0 run 169 [r3, AV.int .i64 1, AV.int .i64 8] S) fun r4 =>
  pk (aun .not r4) S fun r5 =>
  ifA r5
  (some (AV.int .i64 1, S))
  (((pq (nilA a0 S) fun r6 =>
  pk (pfield r6 0 1) S fun r7 =>
  pk (ld1 S r7) S fun r8 =>
  pq (call0 run 216 [r8] S) fun r9 =>
  pk (aun .not r9) S fun r10 =>
  guardA r10 true
  (pq (nilA a0 S) fun r11 =>
  pk (pfield r11 1 1) S fun r12 =>
  pk (ld1 S r12) S fun r13 =>
  pk (abin Tryz.prog .neq 9 r13 (AV.str ⟨#[]⟩)) S fun r14 =>
  guardA r14 false
  (pq (nilA a0 S) fun r15 =>
  pk (pfield r15 0 1) S fun r16 =>
  pk (ld1 S r16) S fun r17 =>
  pq (call0 run 217 [r17] S) fun r18 =>
  pk (aun .not r18) S fun r19 =>
  guardA r19 true
  (pq (nilA a0 S) fun r20 =>
  pk (pfield r20 2 1) S fun r21 =>
  pk (ld1 S r21) S fun r22 =>
  pk (abin Tryz.prog .neq 2 r22 (AV.int .i64 0)) S fun r23 =>
  guardA r23 false
  (pq (nilA a0 S) fun r24 =>
  pk (pfield r24 0 1) S fun r25 =>
  pk (ld1 S r25) S fun r26 =>
  pq (call0 run 218 [r26] S) fun r27 =>
  pk (aun .not r27) S fun r28 =>
  guardA r28 true
  (pq (nilA a0 S) fun r29 =>
  pk (pfield r29 3 1) S fun r30 =>
  pk (ld1 S r30) S fun r31 =>
  pk (abin Tryz.prog .neq 2 r31 (AV.int .i64 0)) S fun r32 =>
  guardA r32 false
  (pq (nilA a0 S) fun r33 =>
  pk (pfield r33 0 1) S fun r34 =>
  pk (ld1 S r34) S fun r35 =>
  pk (abin Tryz.prog .neq 2 r35 (AV.int .i64 3)) S fun r36 =>
  guardA r36 true
  (pq (nilA a0 S) fun r37 =>
  pk (pfield r37 4 1) S fun r38 =>
  pk (ld1 S r38) S fun r39 =>
  guardA r39 false
  (pq (nilA a0 S) fun r40 =>
  pk (pfield r40 5 1) S fun r41 =>
  pk (ld1 S r41) S fun r42 =>
  some (AOut.norm [r42] S))
  (some (AOut.norm [AV.bool true] S)))
  (some (AOut.norm [AV.bool false] S)))
  (some (AOut.norm [AV.bool true] S)))
  (pq (nilA a0 S) fun r43 =>
  pk (pfield r43 0 1) S fun r44 =>
  pk (ld1 S r44) S fun r45 =>
  pk (abin Tryz.prog .neq 2 r45 (AV.int .i64 3)) S fun r46 =>
  guardA r46 true
  (pq (nilA a0 S) fun r47 =>
  pk (pfield r47 4 1) S fun r48 =>
  pk (ld1 S r48) S fun r49 =>
  guardA r49 false
  (pq (nilA a0 S) fun r50 =>
  pk (pfield r50 5 1) S fun r51 =>
  pk (ld1 S r51) S fun r52 =>
  some (AOut.norm [r52] S))
  (some (AOut.norm [AV.bool true] S)))
  (some (AOut.norm [AV.bool false] S))))
  (some (AOut.norm [AV.bool true] S)))
  (pq (nilA a0 S) fun r53 =>
  pk (pfield r53 0 1) S fun r54 =>
  pk (ld1 S r54) S fun r55 =>
  pq (call0 run 218 [r55] S) fun r56 =>
  pk (aun .not r56) S fun r57 =>
  guardA r57 true
  (pq (nilA a0 S) fun r58 =>
  pk (pfield r58 3 1) S fun r59 =>
  pk (ld1 S r59) S fun r60 =>
  pk (abin Tryz.prog .neq 2 r60 (AV.int .i64 0)) S fun r61 =>
  guardA r61 false
  (pq (nilA a0 S) fun r62 =>
  pk (pfield r62 0 1) S fun r63 =>
  pk (ld1 S r63) S fun r64 =>
  pk (abin Tryz.prog .neq 2 r64 (AV.int .i64 3)) S fun r65 =>
  guardA r65 true
  (pq (nilA a0 S) fun r66 =>
  pk (pfield r66 4 1) S fun r67 =>
  pk (ld1 S r67) S fun r68 =>
  guardA r68 false
  (pq (nilA a0 S) fun r69 =>
  pk (pfield r69 5 1) S fun r70 =>
  pk (ld1 S r70) S fun r71 =>
  some (AOut.norm [r71] S))
  (some (AOut.norm [AV.bool true] S)))
  (some (AOut.norm [AV.bool false] S)))
  (some (AOut.norm [AV.bool true] S)))
  (pq (nilA a0 S) fun r72 =>
  pk (pfield r72 0 1) S fun r73 =>
  pk (ld1 S r73) S fun r74 =>
  pk (abin Tryz.prog .neq 2 r74 (AV.int .i64 3)) S fun r75 =>
  guardA r75 true
  (pq (nilA a0 S) fun r76 =>
  pk (pfield r76 4 1) S fun r77 =>
  pk (ld1 S r77) S fun r78 =>
  guardA r78 false
  (pq (nilA a0 S) fun r79 =>
  pk (pfield r79 5 1) S fun r80 =>
  pk (ld1 S r80) S fun r81 =>
  some (AOut.norm [r81] S))
  (some (AOut.norm [AV.bool true] S)))
  (some (AOut.norm [AV.bool false] S)))))
  (some (AOut.norm [AV.bool true] S)))
  (pq (nilA a0 S) fun r82 =>
  pk (pfield r82 0 1) S fun r83 =>
  pk (ld1 S r83) S fun r84 =>
  pq (call0 run 217 [r84] S) fun r85 =>
  pk (aun .not r85) S fun r86 =>
  guardA r86 true
  (pq (nilA a0 S) fun r87 =>
  pk (pfield r87 2 1) S fun r88 =>
  pk (ld1 S r88) S fun r89 =>
  pk (abin Tryz.prog .neq 2 r89 (AV.int .i64 0)) S fun r90 =>
  guardA r90 false
  (pq (nilA a0 S) fun r91 =>
  pk (pfield r91 0 1) S fun r92 =>
  pk (ld1 S r92) S fun r93 =>
  pq (call0 run 218 [r93] S) fun r94 =>
  pk (aun .not r94) S fun r95 =>
  guardA r95 true
  (pq (nilA a0 S) fun r96 =>
  pk (pfield r96 3 1) S fun r97 =>
  pk (ld1 S r97) S fun r98 =>
  pk (abin Tryz.prog .neq 2 r98 (AV.int .i64 0)) S fun r99 =>
  guardA r99 false
  (pq (nilA a0 S) fun r100 =>
  pk (pfield r100 0 1) S fun r101 =>
  pk (ld1 S r101) S fun r102 =>
  pk (abin Tryz.prog .neq 2 r102 (AV.int .i64 3)) S fun r103 =>
  guardA r103 true
  (pq (nilA a0 S) fun r104 =>
  pk (pfield r104 4 1) S fun r105 =>
  pk (ld1 S r105) S fun r106 =>
  guardA r106 false
  (pq (nilA a0 S) fun r107 =>
  pk (pfield r107 5 1) S fun r108 =>
  pk (ld1 S r108) S fun r109 =>
  some (AOut.norm [r109] S))
  (some (AOut.norm [AV.bool true] S)))
  (some (AOut.norm [AV.bool false] S)))
  (some (AOut.norm [AV.bool true] S)))
  (pq (nilA a0 S) fun r110 =>
  pk (pfield r110 0 1) S fun r111 =>
  pk (ld1 S r111) S fun r112 =>
  pk (abin Tryz.prog .neq 2 r112 (AV.int .i64 3)) S fun r113 =>
  guardA r113 true
  (pq (nilA a0 S) fun r114 =>
  pk (pfield r114 4 1) S fun r115 =>
  pk (ld1 S r115) S fun r116 =>
  guardA r116 false
  (pq (nilA a0 S) fun r117 =>
  pk (pfield r117 5 1) S fun r118 =>
  pk (ld1 S r118) S fun r119 =>
  some (AOut.norm [r119] S))
  (some (AOut.norm [AV.bool true] S)))
  (some (AOut.norm [AV.bool false] S))))
  (some (AOut.norm [AV.bool true] S)))
  (pq (nilA a0 S) fun r120 =>
  pk (pfield r120 0 1) S fun r121 =>
  pk (ld1 S r121) S fun r122 =>
  pq (call0 run 218 [r122] S) fun r123 =>
  pk (aun .not r123) S fun r124 =>
  guardA r124 true
  (pq (nilA a0 S) fun r125 =>
  pk (pfield r125 3 1) S fun r126 =>
  pk (ld1 S r126) S fun r127 =>
  pk (abin Tryz.prog .neq 2 r127 (AV.int .i64 0)) S fun r128 =>
  guardA r128 false
  (pq (nilA a0 S) fun r129 =>
  pk (pfield r129 0 1) S fun r130 =>
  pk (ld1 S r130) S fun r131 =>
  pk (abin Tryz.prog .neq 2 r131 (AV.int .i64 3)) S fun r132 =>
  guardA r132 true
  (pq (nilA a0 S) fun r133 =>
  pk (pfield r133 4 1) S fun r134 =>
  pk (ld1 S r134) S fun r135 =>
  guardA r135 false
  (pq (nilA a0 S) fun r136 =>
  pk (pfield r136 5 1) S fun r137 =>
  pk (ld1 S r137) S fun r138 =>
  some (AOut.norm [r138] S))
  (some (AOut.norm [AV.bool true] S)))
  (some (AOut.norm [AV.bool false] S)))
  (some (AOut.norm [AV.bool true] S)))
  (pq (nilA a0 S) fun r139 =>
  pk (pfield r139 0 1) S fun r140 =>
  pk (ld1 S r140) S fun r141 =>
  pk (abin Tryz.prog .neq 2 r141 (AV.int .i64 3)) S fun r142 =>
  guardA r142 true
  (pq (nilA a0 S) fun r143 =>
  pk (pfield r143 4 1) S fun r144 =>
  pk (ld1 S r144) S fun r145 =>
  guardA r145 false
  (pq (nilA a0 S) fun r146 =>
  pk (pfield r146 5 1) S fun r147 =>
  pk (ld1 S r147) S fun r148 =>
  some (AOut.norm [r148] S))
  (some (AOut.norm [AV.bool true] S)))
  (some (AOut.norm [AV.bool false] S)))))).bind fun
  | AOut.norm l149 S149 => (ifA ((gd l149 0))
  (some (AOut.ret [AV.int .i64 1] S149))
  (some (AOut.norm [AV.int .i64 0] S149)))
  | AOut.exit x149 l149 S149 => (some (AOut.exit x149 [AV.int .i64 0] S149))
  | AOut.ret l149 S149 => (some (AOut.ret [AV.int .i64 0] S149))).bind fun
  | AOut.norm l150 S150 => ((pq (nilA a0 S150) fun r151 =>
  pk (pfield r151 0 1) S150 fun r152 =>
  pk (ld1 S150 r152) S150 fun r153 =>
  pq (call0 run 216 [r153] S150) fun r154 =>
  ifA r154
  (pq (nilA a0 S150) fun r155 =>
  pk (pfield r155 1 1) S150 fun r156 =>
  pk (ld1 S150 r156) S150 fun r157 =>
  pq (call0 run 219 [r157] S150) fun r158 =>
  pk (abin Tryz.prog .neq 2 r158 (AV.int .i64 0)) S150 fun r159 =>
  ifA r159
  (some (AOut.ret [r158] S150))
  (some (AOut.norm [(gd l150 0)] S150)))
  (some (AOut.norm [(gd l150 0)] S150))).bind fun
  | AOut.norm l160 S160 => ((pq (nilA a0 S160) fun r161 =>
  pk (pfield r161 2 1) S160 fun r162 =>
  pk (ld1 S160 r162) S160 fun r163 =>
  pq (call0 run 220 [r163] S160) fun r164 =>
  pk (aun .not r164) S160 fun r165 =>
  guardA r165 false
  (pq (nilA a0 S160) fun r166 =>
  pk (pfield r166 3 1) S160 fun r167 =>
  pk (ld1 S160 r167) S160 fun r168 =>
  pq (call0 run 169 [r168, AV.int .i64 (-1), AV.int .i64 999] S160) fun r169 =>
  pk (aun .not r169) S160 fun r170 =>
  ifA r170
  (some (AOut.ret [AV.int .i64 3] S160))
  (some (AOut.norm [(gd l160 0)] S160)))
  (some (AOut.ret [AV.int .i64 3] S160))).bind fun
  | AOut.norm l171 S171 => (some (AV.int .i64 0, S171))
  | AOut.exit x171 l171 S171 => (none)
  | AOut.ret l171 S171 => (some ((gd l171 0), S171)))
  | AOut.exit x160 l160 S160 => (none)
  | AOut.ret l160 S160 => (some ((gd l160 0), S160)))
  | AOut.exit x150 l150 S150 => (none)
  | AOut.ret l150 S150 => (some ((gd l150 0), S150)))
theorem t171 (N d : Nat) (a0 : AV) (S : St) : R N (d + 1) 171 [a0] S = b171 (cfg N) (R N d) a0 S := by unfold R; kernel_rfl
def s104_0 (C : Cfg) (run : RunT) (a0 : AV) (l : List AV) (S : St) : Option AOut :=
  pq (nilA a0 S) fun r29 =>
  pk (pfield r29 3 1) S fun r30 =>
  pk (ld1 S r30) S fun r31 =>
  pk (alen r31) S fun r32 =>
  pk (bin2 Tryz.prog .lss 3 ((gd l 1)) r32) S fun r33 =>
  ifA r33
  (pq (nilA a0 S) fun r34 =>
  pk (pfield r34 3 1) S fun r35 =>
  pk (ld1 S r35) S fun r36 =>
  pk (pindex 6 r36 ((gd l 1)) S) S fun r37 =>
  pq (call0 run 171 [r37] S) fun r38 =>
  pk (abin Tryz.prog .neq 2 r38 (AV.int .i64 0)) S fun r39 =>
  ifA r39
  (some (AOut.ret [r38, (gd l 1)] S))
  (pk (abin Tryz.prog .add 3 ((gd l 1)) (AV.int .i64 1)) S fun r40 =>
  some (AOut.norm [(gd l 0), r40] S)))
  (some (AOut.exit 0 [(gd l 0), (gd l 1)] S))
def s104_1 (C : Cfg) (run : RunT) (a0 : AV) (l : List AV) (S : St) : Option AOut :=
  ((pq (nilA a0 S) fun r42 =>
  pk (pfield r42 3 1) S fun r43 =>
  pk (ld1 S r43) S fun r44 =>
  pk (alen r44) S fun r45 =>
  pk (bin2 Tryz.prog .lss 3 ((gd l 1)) r45) S fun r46 =>
  guardA r46 true
  (pq (nilA a0 S) fun r47 =>
  pk (pfield r47 3 1) S fun r48 =>
  pk (ld1 S r48) S fun r49 =>
  pk (alen r49) S fun r50 =>
  pk (abin Tryz.prog .gtr 3 r50 (AV.int .i64 1)) S fun r51 =>
  some (AOut.norm [r51] S))
  (some (AOut.norm [AV.bool false] S))).bind fun
  | AOut.norm l52 S52 => (ifA ((gd l52 0))
  (some (AOut.norm [(gd l52 0)] S52))
  (some (AOut.exit 2 [(gd l52 0)] S52)))
  | AOut.exit x52 l52 S52 => (some (AOut.exit x52 [(gd l52 0)] S52))
  | AOut.ret l52 S52 => (some (AOut.ret [(gd l52 0)] S52))).bind fun
  | AOut.norm l53 S53 => (pq (nilA a0 S53) fun r54 =>
  pk (pfield r54 3 1) S53 fun r55 =>
  pk (ld1 S53 r55) S53 fun r56 =>
  pk (pindex 6 r56 ((gd l 1)) S53) S53 fun r57 =>
  pk (pfield r57 0 1) S53 fun r58 =>
  pk (ld1 S53 r58) S53 fun r59 =>
  pk (abin Tryz.prog .leq 2 r59 (AV.int .i64 2)) S53 fun r60 =>
  ifA r60
  (some (AOut.ret [AV.int .i64 1, (gd l 1)] S53))
  (pk (abin Tryz.prog .add 3 ((gd l 1)) (AV.int .i64 1)) S53 fun r61 =>
  some (AOut.norm [(gd l 0), r61] S53)))
  | AOut.exit x53 l53 S53 => (some (AOut.exit x53 [(gd l 0), (gd l 1)] S53))
  | AOut.ret l53 S53 => (some (AOut.ret [(gd l 0), (gd l 1)] S53))
def b104 (C : Cfg) (run : RunT) (a0 : AV) (S : St) : OA :=
  ((pq (nilA a0 S) fun r1 =>
  pk (pfield r1 0 1) S fun r2 =>
  pk (ld1 S r2) S fun r3 =>
  pq (call0 run 168 [r3] S) fun r4 =>
  pk (aun .not r4) S fun r5 =>
  guardA r5 false
  (pq (nilA a0 S) fun r6 =>
  pk (pfield r6 1 1) S fun r7 =>
  pk (ld1 S r7) S fun r8 =>
  pq (call0 run 169 [r8, AV.int .i64 1, AV.int .i64 99] S) fun r9 =>
  pk (aun .not r9) S fun r10 =>
  guardA r10 false
  (pq (nilA a0 S) fun r11 =>
  pk (pfield r11 2 1) S fun r12 =>
  pk (ld1 S r12) S fun r13 =>
  pq (call0 run 170 [r13] S) fun r14 =>
  pk (aun .not r14) S fun r15 =>
  some (AOut.norm [r15] S))
  (some (AOut.norm [AV.bool true] S)))
  (some (AOut.norm [AV.bool true] S))).bind fun
  | AOut.norm l16 S16 => (ifA ((gd l16 0))
  (some (AOut.ret [AV.int .i64 3] S16))
  (some (AOut.norm [AV.int .i64 0] S16)))
  | AOut.exit x16 l16 S16 => (some (AOut.exit x16 [AV.int .i64 0] S16))
  | AOut.ret l16 S16 => (some (AOut.ret [AV.int .i64 0] S16))).bind fun
  | AOut.norm l17 S17 => ((pq (nilA a0 S17) fun r18 =>
  pk (pfield r18 3 1) S17 fun r19 =>
  pk (ld1 S17 r19) S17 fun r20 =>
  pk (alen r20) S17 fun r21 =>
  pk (abin Tryz.prog .lss 3 r21 (AV.int .i64 1)) S17 fun r22 =>
  guardA r22 false
  (pq (nilA a0 S17) fun r23 =>
  pk (pfield r23 3 1) S17 fun r24 =>
  pk (ld1 S17 r24) S17 fun r25 =>
  pk (alen r25) S17 fun r26 =>
  pk (abin Tryz.prog .gtr 3 r26 (AV.int .i64 3)) S17 fun r27 =>
  ifA r27
  (some (AOut.ret [AV.int .i64 2] S17))
  (some (AOut.norm [(gd l17 0)] S17)))
  (some (AOut.ret [AV.int .i64 2] S17))).bind fun
  | AOut.norm l28 S28 => ((aloop (s104_0 C run a0) C.N [(gd l28 0), AV.int .i64 0] S28).bind fun
  | AOut.norm _ _ => (none)
  | AOut.exit x41 l41 S41 => (if x41 = 0 then ((aloop (s104_1 C run a0) C.N [(gd l41 0), AV.int .i64 0] S41).bind fun
  | AOut.norm _ _ => (none)
  | AOut.exit x62 l62 S62 => (if x62 = 2 then (some (AV.int .i64 0, S62)) else (none))
  | AOut.ret l62 S62 => (some ((gd l62 0), S62))) else (none))
  | AOut.ret l41 S41 => (some ((gd l41 0), S41)))
  | AOut.exit x28 l28 S28 => (none)
  | AOut.ret l28 S28 => (some ((gd l28 0), S28)))
  | AOut.exit x17 l17 S17 => (none)
  | AOut.ret l17 S17 => (some ((gd l17 0), S17))
theorem t104 (N d : Nat) (a0 : AV) (S : St) : R N (d + 1) 104 [a0] S = b104 (cfg N) (R N d) a0 S := by unfold R; kernel_rfl
def s105_0 (C : Cfg) (run : RunT) (a0 : AV) (a1 : AV) (a2 : AV) (l : List AV) (S : St) : Option AOut :=
  pk (alen a0) S fun r1 =>
  pk (bin2 Tryz.prog .lss 3 ((gd l 1)) r1) S fun r2 =>
  ifA r2
  ((pk (pindex 4 a0 ((gd l 1)) S) S fun r3 =>
  pk (pfield r3 0 1) S fun r4 =>
  pk (ld1 S r4) S fun r5 =>
  pk (bin2 Tryz.prog .eql 2 r5 a1) S fun r6 =>
  guardA r6 true
  (pk (pindex 4 a0 ((gd l 1)) S) S fun r7 =>
  pk (pfield r7 1 1) S fun r8 =>
  pk (ld1 S r8) S fun r9 =>
  pk (bin2 Tryz.prog .eql 2 r9 a2) S fun r10 =>
  ifA r10
  (some (AOut.ret [(gd l 1)] S))
  (some (AOut.norm [(gd l 0)] S)))
  (some (AOut.norm [(gd l 0)] S))).bind fun
  | AOut.norm l11 S11 => (pk (abin Tryz.prog .add 3 ((gd l 1)) (AV.int .i64 1)) S11 fun r12 =>
  some (AOut.norm [(gd l11 0), r12] S11))
  | AOut.exit x11 l11 S11 => (some (AOut.exit x11 [(gd l11 0), (gd l 1)] S11))
  | AOut.ret l11 S11 => (some (AOut.ret [(gd l11 0), (gd l 1)] S11)))
  (some (AOut.exit 0 [(gd l 0), (gd l 1)] S))
def b105 (C : Cfg) (run : RunT) (a0 a1 a2 : AV) (S : St) : OA :=
  (aloop (s105_0 C run a0 a1 a2) C.N [AV.int .i64 0, AV.int .i64 0] S).bind fun
  | AOut.norm _ _ => (none)
  | AOut.exit x13 l13 S13 => (if x13 = 0 then (some (AV.int .i64 (-1), S13)) else (none))
  | AOut.ret l13 S13 => (some ((gd l13 0), S13))
theorem t105 (N d : Nat) (a0 a1 a2 : AV) (S : St) : R N (d + 1) 105 [a0, a1, a2] S = b105 (cfg N) (R N d) a0 a1 a2 S := by unfold R; kernel_rfl
def b187 (C : Cfg) (run : RunT) (a0 : AV) (S : St) : OA :=
  pq (call0 run 169 [a0, AV.int .i64 1, AV.int .i64 2] S) fun r1 =>
  some (r1, S)
theorem t187 (N d : Nat) (a0 : AV) (S : St) : R N (d + 1) 187 [a0] S = b187 (cfg N) (R N d) a0 S := by unfold R; kernel_rfl
def b189 (C : Cfg) (run : RunT) (a0 a1 : AV) (S : St) : OA :=
  pk (abin Tryz.prog .mul 2 (AV.int .i64 3) a0) S fun r1 =>
  pk (abin Tryz.prog .add 2 r1 (AV.int .i64 1)) S fun r2 =>
  pq (call0 run 169 [a1, AV.int .i64 1, r2] S) fun r3 =>
  some (r3, S)
theorem t189 (N d : Nat) (a0 a1 : AV) (S : St) : R N (d + 1) 189 [a0, a1] S = b189 (cfg N) (R N d) a0 a1 S := by unfold R; kernel_rfl
def b258 (C : Cfg) (run : RunT) (a0 : AV) (S : St) : OA :=
  pq (nilA a0 S) fun r1 =>
  pk (pfield r1 0 1) S fun r2 =>
  pk (ld1 S r2) S fun r3 =>
  pq (call0 run 169 [r3, AV.int .i64 1, AV.int .i64 3] S) fun r4 =>
  (pq (nilA a0 S) fun r5 =>
  pk (pfield r5 0 1) S fun r6 =>
  pk (ld1 S r6) S fun r7 =>
  pq (call0 run 169 [r7, AV.int .i64 1, AV.int .i64 5] S) fun r8 =>
  guardA r8 true
  (guardA r4 false
  (pq (nilA a0 S) fun r9 =>
  pk (pfield r9 3 1) S fun r10 =>
  pk (ld1 S r10) S fun r11 =>
  pk (abin Tryz.prog .eql 2 r11 (AV.int .i64 0)) S fun r12 =>
  guardA r12 true
  (pq (nilA a0 S) fun r13 =>
  pk (pfield r13 4 1) S fun r14 =>
  pk (ld1 S r14) S fun r15 =>
  pk (abin Tryz.prog .eql 2 r15 (AV.int .i64 0)) S fun r16 =>
  guardA r16 true
  (pq (nilA a0 S) fun r17 =>
  pk (pfield r17 0 1) S fun r18 =>
  pk (ld1 S r18) S fun r19 =>
  pk (abin Tryz.prog .eql 2 r19 (AV.int .i64 4)) S fun r20 =>
  guardA r20 false
  (pq (nilA a0 S) fun r21 =>
  pk (pfield r21 5 1) S fun r22 =>
  pk (ld1 S r22) S fun r23 =>
  pk (alen r23) S fun r24 =>
  pk (abin Tryz.prog .eql 3 r24 (AV.int .i64 0)) S fun r25 =>
  guardA r25 true
  (pq (nilA a0 S) fun r26 =>
  pk (pfield r26 0 1) S fun r27 =>
  pk (ld1 S r27) S fun r28 =>
  pk (abin Tryz.prog .eql 2 r28 (AV.int .i64 5)) S fun r29 =>
  guardA r29 false
  (pq (nilA a0 S) fun r30 =>
  pk (pfield r30 6 1) S fun r31 =>
  pk (ld1 S r31) S fun r32 =>
  pk (alen r32) S fun r33 =>
  pk (abin Tryz.prog .eql 3 r33 (AV.int .i64 0)) S fun r34 =>
  some (AOut.norm [r34] S))
  (some (AOut.norm [AV.bool true] S)))
  (some (AOut.norm [AV.bool false] S)))
  (pq (nilA a0 S) fun r35 =>
  pk (pfield r35 0 1) S fun r36 =>
  pk (ld1 S r36) S fun r37 =>
  pk (abin Tryz.prog .eql 2 r37 (AV.int .i64 5)) S fun r38 =>
  guardA r38 false
  (pq (nilA a0 S) fun r39 =>
  pk (pfield r39 6 1) S fun r40 =>
  pk (ld1 S r40) S fun r41 =>
  pk (alen r41) S fun r42 =>
  pk (abin Tryz.prog .eql 3 r42 (AV.int .i64 0)) S fun r43 =>
  some (AOut.norm [r43] S))
  (some (AOut.norm [AV.bool true] S))))
  (some (AOut.norm [AV.bool false] S)))
  (some (AOut.norm [AV.bool false] S)))
  (pq (nilA a0 S) fun r44 =>
  pk (pfield r44 0 1) S fun r45 =>
  pk (ld1 S r45) S fun r46 =>
  pk (abin Tryz.prog .eql 2 r46 (AV.int .i64 4)) S fun r47 =>
  guardA r47 false
  (pq (nilA a0 S) fun r48 =>
  pk (pfield r48 5 1) S fun r49 =>
  pk (ld1 S r49) S fun r50 =>
  pk (alen r50) S fun r51 =>
  pk (abin Tryz.prog .eql 3 r51 (AV.int .i64 0)) S fun r52 =>
  guardA r52 true
  (pq (nilA a0 S) fun r53 =>
  pk (pfield r53 0 1) S fun r54 =>
  pk (ld1 S r54) S fun r55 =>
  pk (abin Tryz.prog .eql 2 r55 (AV.int .i64 5)) S fun r56 =>
  guardA r56 false
  (pq (nilA a0 S) fun r57 =>
  pk (pfield r57 6 1) S fun r58 =>
  pk (ld1 S r58) S fun r59 =>
  pk (alen r59) S fun r60 =>
  pk (abin Tryz.prog .eql 3 r60 (AV.int .i64 0)) S fun r61 =>
  some (AOut.norm [r61] S))
  (some (AOut.norm [AV.bool true] S)))
  (some (AOut.norm [AV.bool false] S)))
  (pq (nilA a0 S) fun r62 =>
  pk (pfield r62 0 1) S fun r63 =>
  pk (ld1 S r63) S fun r64 =>
  pk (abin Tryz.prog .eql 2 r64 (AV.int .i64 5)) S fun r65 =>
  guardA r65 false
  (pq (nilA a0 S) fun r66 =>
  pk (pfield r66 6 1) S fun r67 =>
  pk (ld1 S r67) S fun r68 =>
  pk (alen r68) S fun r69 =>
  pk (abin Tryz.prog .eql 3 r69 (AV.int .i64 0)) S fun r70 =>
  some (AOut.norm [r70] S))
  (some (AOut.norm [AV.bool true] S)))))
  (some (AOut.norm [AV.bool false] S))).bind fun
  | AOut.norm l71 S71 => (some ((gd l71 0), S71))
  | AOut.exit x71 l71 S71 => (none)
  | AOut.ret l71 S71 => (some ((gd l71 0), S71))
theorem t258 (N d : Nat) (a0 : AV) (S : St) : R N (d + 1) 258 [a0] S = b258 (cfg N) (R N d) a0 S := by unfold R; kernel_rfl
def s259_0 (C : Cfg) (run : RunT) (a0 : AV) (l : List AV) (S : St) : Option AOut :=
  pq (nilA a0 S) fun r1 =>
  pk (pfield r1 5 1) S fun r2 =>
  pk (ld1 S r2) S fun r3 =>
  pk (alen r3) S fun r4 =>
  pk (bin2 Tryz.prog .lss 3 ((gd l 1)) r4) S fun r5 =>
  ifA r5
  (pq (nilA a0 S) fun r6 =>
  pk (pfield r6 5 1) S fun r7 =>
  pk (ld1 S r7) S fun r8 =>
  pk (pindex 3 r8 ((gd l 1)) S) S fun r9 =>
  pk (pfield r9 0 1) S fun r10 =>
  pk (ld1 S r10) S fun r11 =>
  pq (nilA a0 S) fun r12 =>
  pk (pfield r12 5 1) S fun r13 =>
  pk (ld1 S r13) S fun r14 =>
  pk (abin Tryz.prog .sub 3 ((gd l 1)) (AV.int .i64 1)) S fun r15 =>
  pk (pindex 3 r14 r15 S) S fun r16 =>
  pk (pfield r16 0 1) S fun r17 =>
  pk (ld1 S r17) S fun r18 =>
  pk (bin2 Tryz.prog .leq 2 r11 r18) S fun r19 =>
  ifA r19
  (some (AOut.ret [AV.int .i64 1, (gd l 1)] S))
  (pk (abin Tryz.prog .add 3 ((gd l 1)) (AV.int .i64 1)) S fun r20 =>
  some (AOut.norm [(gd l 0), r20] S)))
  (some (AOut.exit 0 [(gd l 0), (gd l 1)] S))
def s259_1 (C : Cfg) (run : RunT) (a0 : AV) (l : List AV) (S : St) : Option AOut :=
  pq (nilA a0 S) fun r22 =>
  pk (pfield r22 6 1) S fun r23 =>
  pk (ld1 S r23) S fun r24 =>
  pk (alen r24) S fun r25 =>
  pk (bin2 Tryz.prog .lss 3 ((gd l 1)) r25) S fun r26 =>
  ifA r26
  (pq (nilA a0 S) fun r27 =>
  pk (pfield r27 6 1) S fun r28 =>
  pk (ld1 S r28) S fun r29 =>
  pk (pindex 1 r29 ((gd l 1)) S) S fun r30 =>
  pk (ld1 S r30) S fun r31 =>
  pq (nilA a0 S) fun r32 =>
  pk (pfield r32 6 1) S fun r33 =>
  pk (ld1 S r33) S fun r34 =>
  pk (abin Tryz.prog .sub 3 ((gd l 1)) (AV.int .i64 1)) S fun r35 =>
  pk (pindex 1 r34 r35 S) S fun r36 =>
  pk (ld1 S r36) S fun r37 =>
  pk (bin2 Tryz.prog .leq 2 r31 r37) S fun r38 =>
  ifA r38
  (some (AOut.ret [AV.int .i64 1, (gd l 1)] S))
  (pk (abin Tryz.prog .add 3 ((gd l 1)) (AV.int .i64 1)) S fun r39 =>
  some (AOut.norm [(gd l 0), r39] S)))
  (some (AOut.exit 2 [(gd l 0), (gd l 1)] S))
def s259_2 (C : Cfg) (run : RunT) (a0 : AV) (l : List AV) (S : St) : Option AOut :=
  pq (nilA a0 S) fun r41 =>
  pk (pfield r41 5 1) S fun r42 =>
  pk (ld1 S r42) S fun r43 =>
  pk (alen r43) S fun r44 =>
  pk (bin2 Tryz.prog .lss 3 ((gd l 1)) r44) S fun r45 =>
  ifA r45
  ((pq (nilA a0 S) fun r46 =>
  pk (pfield r46 5 1) S fun r47 =>
  pk (ld1 S r47) S fun r48 =>
  pk (pindex 3 r48 ((gd l 1)) S) S fun r49 =>
  pk (ldA S r49 3) S fun r50 =>
  pe (some (newBox S [AV.int .i64 0, AV.int .i64 0, AV.int .i64 0])) fun r51 S51 =>
  pe (storeA 3 r51 r50 S51) fun r52 S52 =>
  (pk (pfield r51 0 1) S52 fun r53 =>
  pk (ld1 S52 r53) S52 fun r54 =>
  pq (call0 run 169 [r54, AV.int .i64 1, AV.int .i64 30] S52) fun r55 =>
  pk (aun .not r55) S52 fun r56 =>
  guardA r56 false
  (pk (pfield r51 1 1) S52 fun r57 =>
  pk (ld1 S52 r57) S52 fun r58 =>
  pq (nilA a0 S52) fun r59 =>
  pk (pfield r59 1 1) S52 fun r60 =>
  pk (ld1 S52 r60) S52 fun r61 =>
  pk (abin Tryz.prog .sub 2 r61 (AV.int .i64 1)) S52 fun r62 =>
  pq (call0 run 169 [r58, AV.int .i64 0, r62] S52) fun r63 =>
  pk (aun .not r63) S52 fun r64 =>
  guardA r64 false
  (pk (pfield r51 2 1) S52 fun r65 =>
  pk (ld1 S52 r65) S52 fun r66 =>
  pq (call0 run 169 [r66, AV.int .i64 0, AV.int .i64 12] S52) fun r67 =>
  pk (aun .not r67) S52 fun r68 =>
  some (AOut.norm [r68] S52))
  (some (AOut.norm [AV.bool true] S52)))
  (some (AOut.norm [AV.bool true] S52))).bind fun
  | AOut.norm l69 S69 => (ifA ((gd l69 0))
  (some (AOut.ret [AV.int .i64 3] S69))
  (some (AOut.norm [(gd l 0)] S69)))
  | AOut.exit x69 l69 S69 => (if x69 = 5 then (some (AOut.norm [(gd l 0)] S69)) else (some (AOut.exit x69 [(gd l 0)] S69)))
  | AOut.ret l69 S69 => (some (AOut.ret [(gd l 0)] S69))).bind fun
  | AOut.norm l70 S70 => (pk (abin Tryz.prog .add 3 ((gd l 1)) (AV.int .i64 1)) S70 fun r71 =>
  some (AOut.norm [(gd l70 0), r71] S70))
  | AOut.exit x70 l70 S70 => (some (AOut.exit x70 [(gd l70 0), (gd l 1)] S70))
  | AOut.ret l70 S70 => (some (AOut.ret [(gd l70 0), (gd l 1)] S70)))
  (some (AOut.exit 4 [(gd l 0), (gd l 1)] S))
def s259_3 (C : Cfg) (run : RunT) (a0 : AV) (l : List AV) (S : St) : Option AOut :=
  pq (nilA a0 S) fun r73 =>
  pk (pfield r73 6 1) S fun r74 =>
  pk (ld1 S r74) S fun r75 =>
  pk (alen r75) S fun r76 =>
  pk (bin2 Tryz.prog .lss 3 ((gd l 1)) r76) S fun r77 =>
  ifA r77
  (pq (nilA a0 S) fun r78 =>
  pk (pfield r78 6 1) S fun r79 =>
  pk (ld1 S r79) S fun r80 =>
  pk (pindex 1 r80 ((gd l 1)) S) S fun r81 =>
  pk (ld1 S r81) S fun r82 =>
  pq (call0 run 169 [r82, AV.int .i64 0, AV.int .i64 239] S) fun r83 =>
  pk (aun .not r83) S fun r84 =>
  ifA r84
  (some (AOut.ret [AV.int .i64 3, (gd l 1)] S))
  (pk (abin Tryz.prog .add 3 ((gd l 1)) (AV.int .i64 1)) S fun r85 =>
  some (AOut.norm [(gd l 0), r85] S)))
  (some (AOut.exit 6 [(gd l 0), (gd l 1)] S))
def b259 (C : Cfg) (run : RunT) (a0 : AV) (S : St) : OA :=
  (aloop (s259_0 C run a0) C.N [AV.int .i64 0, AV.int .i64 1] S).bind fun
  | AOut.norm _ _ => (none)
  | AOut.exit x21 l21 S21 => (if x21 = 0 then ((aloop (s259_1 C run a0) C.N [(gd l21 0), AV.int .i64 1] S21).bind fun
  | AOut.norm _ _ => (none)
  | AOut.exit x40 l40 S40 => (if x40 = 2 then ((aloop (s259_2 C run a0) C.N [(gd l40 0), AV.int .i64 0] S40).bind fun
  | AOut.norm _ _ => (none)
  | AOut.exit x72 l72 S72 => (if x72 = 4 then ((aloop (s259_3 C run a0) C.N [(gd l72 0), AV.int .i64 0] S72).bind fun
  | AOut.norm _ _ => (none)
  | AOut.exit x86 l86 S86 => (if x86 = 6 then (some (AV.int .i64 0, S86)) else (none))
  | AOut.ret l86 S86 => (some ((gd l86 0), S86))) else (none))
  | AOut.ret l72 S72 => (some ((gd l72 0), S72))) else (none))
  | AOut.ret l40 S40 => (some ((gd l40 0), S40))) else (none))
  | AOut.ret l21 S21 => (some ((gd l21 0), S21))
theorem t259 (N d : Nat) (a0 : AV) (S : St) : R N (d + 1) 259 [a0] S = b259 (cfg N) (R N d) a0 S := by unfold R; kernel_rfl
def b227 (C : Cfg) (run : RunT) (a0 a1 : AV) (S : St) : OA :=
  pq (call0 run 258 [a1] S) fun r1 =>
  pk (aun .not r1) S fun r2 =>
  ifA r2
  (some (AV.int .i64 1, S))
  (pq (nilA a1 S) fun r3 =>
  pk (pfield r3 0 1) S fun r4 =>
  pk (ld1 S r4) S fun r5 =>
  pk (abin Tryz.prog .leq 2 r5 (AV.int .i64 3)) S fun r6 =>
  ((pq (nilA a1 S) fun r7 =>
  pk (pfield r7 1 1) S fun r8 =>
  pk (ld1 S r8) S fun r9 =>
  pq (call0 run 169 [r9, AV.int .i64 0, AV.int .i64 20] S) fun r10 =>
  pk (aun .not r10) S fun r11 =>
  guardA r11 false
  (pq (nilA a1 S) fun r12 =>
  pk (pfield r12 2 1) S fun r13 =>
  pk (ld1 S r13) S fun r14 =>
  pq (call0 run 189 [a0, r14] S) fun r15 =>
  pk (aun .not r15) S fun r16 =>
  guardA r16 false
  (guardA r6 true
  (pq (nilA a1 S) fun r17 =>
  pk (pfield r17 3 1) S fun r18 =>
  pk (ld1 S r18) S fun r19 =>
  pq (call0 run 169 [r19, AV.int .i64 1, AV.int .i64 30] S) fun r20 =>
  pk (aun .not r20) S fun r21 =>
  guardA r21 false
  (pq (nilA a1 S) fun r22 =>
  pk (pfield r22 4 1) S fun r23 =>
  pk (ld1 S r23) S fun r24 =>
  pq (call0 run 169 [r24, AV.int .i64 0, AV.int .i64 12] S) fun r25 =>
  pk (aun .not r25) S fun r26 =>
  some (AOut.norm [r26] S))
  (some (AOut.norm [AV.bool true] S)))
  (some (AOut.norm [AV.bool false] S)))
  (some (AOut.norm [AV.bool true] S)))
  (some (AOut.norm [AV.bool true] S))).bind fun
  | AOut.norm l27 S27 => (ifA ((gd l27 0))
  (some (AOut.ret [AV.int .i64 3] S27))
  (some (AOut.norm [AV.int .i64 0] S27)))
  | AOut.exit x27 l27 S27 => (some (AOut.exit x27 [AV.int .i64 0] S27))
  | AOut.ret l27 S27 => (some (AOut.ret [AV.int .i64 0] S27))).bind fun
  | AOut.norm l28 S28 => ((pq (nilA a1 S28) fun r29 =>
  pk (pfield r29 5 1) S28 fun r30 =>
  pk (ld1 S28 r30) S28 fun r31 =>
  pk (alen r31) S28 fun r32 =>
  pk (abin Tryz.prog .gtr 3 r32 (AV.int .i64 30)) S28 fun r33 =>
  guardA r33 false
  (pq (nilA a1 S28) fun r34 =>
  pk (pfield r34 6 1) S28 fun r35 =>
  pk (ld1 S28 r35) S28 fun r36 =>
  pk (alen r36) S28 fun r37 =>
  pk (abin Tryz.prog .mul 2 (AV.int .i64 3) a0) S28 fun r38 =>
  pk (abin Tryz.prog .add 2 r38 (AV.int .i64 1)) S28 fun r39 =>
  pk (bin2 Tryz.prog .gtr 2 r37 r39) S28 fun r40 =>
  ifA r40
  (some (AOut.ret [AV.int .i64 2] S28))
  (some (AOut.norm [(gd l28 0)] S28)))
  (some (AOut.ret [AV.int .i64 2] S28))).bind fun
  | AOut.norm l41 S41 => (pq (call0 run 259 [a1] S41) fun r42 =>
  some (r42, S41))
  | AOut.exit x41 l41 S41 => (none)
  | AOut.ret l41 S41 => (some ((gd l41 0), S41)))
  | AOut.exit x28 l28 S28 => (none)
  | AOut.ret l28 S28 => (some ((gd l28 0), S28)))
theorem t227 (N d : Nat) (a0 a1 : AV) (S : St) : R N (d + 1) 227 [a0, a1] S = b227 (cfg N) (R N d) a0 a1 S := by unfold R; kernel_rfl
def s228_0 (C : Cfg) (run : RunT) (a0 : AV) (a1 : AV) (l : List AV) (S : St) : Option AOut :=
  pq (nilA a0 S) fun r1 =>
  pk (pfield r1 6 1) S fun r2 =>
  pk (ld1 S r2) S fun r3 =>
  pk (alen r3) S fun r4 =>
  pk (bin2 Tryz.prog .lss 3 ((gd l 1)) r4) S fun r5 =>
  ifA r5
  (pq (nilA a0 S) fun r6 =>
  pk (pfield r6 6 1) S fun r7 =>
  pk (ld1 S r7) S fun r8 =>
  pk (pindex 1 r8 ((gd l 1)) S) S fun r9 =>
  pk (ld1 S r9) S fun r10 =>
  pk (bin2 Tryz.prog .geq 2 r10 a1) S fun r11 =>
  ifA r11
  (some (AOut.ret [AV.bool false, (gd l 1)] S))
  (pk (abin Tryz.prog .add 3 ((gd l 1)) (AV.int .i64 1)) S fun r12 =>
  some (AOut.norm [(gd l 0), r12] S)))
  (some (AOut.exit 0 [(gd l 0), (gd l 1)] S))
def b228 (C : Cfg) (run : RunT) (a0 a1 : AV) (S : St) : OA :=
  (aloop (s228_0 C run a0 a1) C.N [AV.bool false, AV.int .i64 0] S).bind fun
  | AOut.norm _ _ => (none)
  | AOut.exit x13 l13 S13 => (if x13 = 0 then (some (AV.bool true, S13)) else (none))
  | AOut.ret l13 S13 => (some ((gd l13 0), S13))
theorem t228 (N d : Nat) (a0 a1 : AV) (S : St) : R N (d + 1) 228 [a0, a1] S = b228 (cfg N) (R N d) a0 a1 S := by unfold R; kernel_rfl
def s260_0 (C : Cfg) (run : RunT) (a0 : AV) (a1 : AV) (l : List AV) (S : St) : Option AOut :=
  pq (nilA a0 S) fun r56 =>
  pk (pfield r56 5 1) S fun r57 =>
  pk (ld1 S r57) S fun r58 =>
  pk (alen r58) S fun r59 =>
  pk (bin2 Tryz.prog .lss 3 ((gd l 1)) r59) S fun r60 =>
  ifA r60
  (pq (nilA a0 S) fun r61 =>
  pk (pfield r61 5 1) S fun r62 =>
  pk (ld1 S r62) S fun r63 =>
  pk (pindex 3 r63 ((gd l 1)) S) S fun r64 =>
  pk (ldA S r64 3) S fun r65 =>
  pq (nilA a1 S) fun r66 =>
  pk (pfield r66 5 1) S fun r67 =>
  pk (ld1 S r67) S fun r68 =>
  pk (pindex 3 r68 ((gd l 1)) S) S fun r69 =>
  pk (ldA S r69 3) S fun r70 =>
  pk (bin2 Tryz.prog .neq 161 r65 r70) S fun r71 =>
  ifA r71
  (some (AOut.ret [AV.bool false, (gd l 1)] S))
  (pk (abin Tryz.prog .add 3 ((gd l 1)) (AV.int .i64 1)) S fun r72 =>
  some (AOut.norm [(gd l 0), r72] S)))
  (some (AOut.exit 0 [(gd l 0), (gd l 1)] S))
def s260_1 (C : Cfg) (run : RunT) (a0 : AV) (a1 : AV) (l : List AV) (S : St) : Option AOut :=
  pq (nilA a0 S) fun r74 =>
  pk (pfield r74 6 1) S fun r75 =>
  pk (ld1 S r75) S fun r76 =>
  pk (alen r76) S fun r77 =>
  pk (bin2 Tryz.prog .lss 3 ((gd l 1)) r77) S fun r78 =>
  ifA r78
  (pq (nilA a0 S) fun r79 =>
  pk (pfield r79 6 1) S fun r80 =>
  pk (ld1 S r80) S fun r81 =>
  pk (pindex 1 r81 ((gd l 1)) S) S fun r82 =>
  pk (ld1 S r82) S fun r83 =>
  pq (nilA a1 S) fun r84 =>
  pk (pfield r84 6 1) S fun r85 =>
  pk (ld1 S r85) S fun r86 =>
  pk (pindex 1 r86 ((gd l 1)) S) S fun r87 =>
  pk (ld1 S r87) S fun r88 =>
  pk (bin2 Tryz.prog .neq 2 r83 r88) S fun r89 =>
  ifA r89
  (some (AOut.ret [AV.bool false, (gd l 1)] S))
  (pk (abin Tryz.prog .add 3 ((gd l 1)) (AV.int .i64 1)) S fun r90 =>
  some (AOut.norm [(gd l 0), r90] S)))
  (some (AOut.exit 2 [(gd l 0), (gd l 1)] S))
def b260 (C : Cfg) (run : RunT) (a0 a1 : AV) (S : St) : OA :=
  ((pq (nilA a0 S) fun r1 =>
  pk (pfield r1 0 1) S fun r2 =>
  pk (ld1 S r2) S fun r3 =>
  pq (nilA a1 S) fun r4 =>
  pk (pfield r4 0 1) S fun r5 =>
  pk (ld1 S r5) S fun r6 =>
  pk (bin2 Tryz.prog .neq 2 r3 r6) S fun r7 =>
  guardA r7 false
  (pq (nilA a0 S) fun r8 =>
  pk (pfield r8 1 1) S fun r9 =>
  pk (ld1 S r9) S fun r10 =>
  pq (nilA a1 S) fun r11 =>
  pk (pfield r11 1 1) S fun r12 =>
  pk (ld1 S r12) S fun r13 =>
  pk (bin2 Tryz.prog .neq 2 r10 r13) S fun r14 =>
  guardA r14 false
  (pq (nilA a0 S) fun r15 =>
  pk (pfield r15 2 1) S fun r16 =>
  pk (ld1 S r16) S fun r17 =>
  pq (nilA a1 S) fun r18 =>
  pk (pfield r18 2 1) S fun r19 =>
  pk (ld1 S r19) S fun r20 =>
  pk (bin2 Tryz.prog .neq 2 r17 r20) S fun r21 =>
  guardA r21 false
  (pq (nilA a0 S) fun r22 =>
  pk (pfield r22 3 1) S fun r23 =>
  pk (ld1 S r23) S fun r24 =>
  pq (nilA a1 S) fun r25 =>
  pk (pfield r25 3 1) S fun r26 =>
  pk (ld1 S r26) S fun r27 =>
  pk (bin2 Tryz.prog .neq 2 r24 r27) S fun r28 =>
  guardA r28 false
  (pq (nilA a0 S) fun r29 =>
  pk (pfield r29 4 1) S fun r30 =>
  pk (ld1 S r30) S fun r31 =>
  pq (nilA a1 S) fun r32 =>
  pk (pfield r32 4 1) S fun r33 =>
  pk (ld1 S r33) S fun r34 =>
  pk (bin2 Tryz.prog .neq 2 r31 r34) S fun r35 =>
  guardA r35 false
  (pq (nilA a0 S) fun r36 =>
  pk (pfield r36 5 1) S fun r37 =>
  pk (ld1 S r37) S fun r38 =>
  pk (alen r38) S fun r39 =>
  pq (nilA a1 S) fun r40 =>
  pk (pfield r40 5 1) S fun r41 =>
  pk (ld1 S r41) S fun r42 =>
  pk (alen r42) S fun r43 =>
  pk (bin2 Tryz.prog .neq 3 r39 r43) S fun r44 =>
  guardA r44 false
  (pq (nilA a0 S) fun r45 =>
  pk (pfield r45 6 1) S fun r46 =>
  pk (ld1 S r46) S fun r47 =>
  pk (alen r47) S fun r48 =>
  pq (nilA a1 S) fun r49 =>
  pk (pfield r49 6 1) S fun r50 =>
  pk (ld1 S r50) S fun r51 =>
  pk (alen r51) S fun r52 =>
  pk (bin2 Tryz.prog .neq 3 r48 r52) S fun r53 =>
  some (AOut.norm [r53] S))
  (some (AOut.norm [AV.bool true] S)))
  (some (AOut.norm [AV.bool true] S)))
  (some (AOut.norm [AV.bool true] S)))
  (some (AOut.norm [AV.bool true] S)))
  (some (AOut.norm [AV.bool true] S)))
  (some (AOut.norm [AV.bool true] S))).bind fun
  | AOut.norm l54 S54 => (ifA ((gd l54 0))
  (some (AOut.ret [AV.bool false] S54))
  (some (AOut.norm [AV.bool false] S54)))
  | AOut.exit x54 l54 S54 => (some (AOut.exit x54 [AV.bool false] S54))
  | AOut.ret l54 S54 => (some (AOut.ret [AV.bool false] S54))).bind fun
  | AOut.norm l55 S55 => ((aloop (s260_0 C run a0 a1) C.N [(gd l55 0), AV.int .i64 0] S55).bind fun
  | AOut.norm _ _ => (none)
  | AOut.exit x73 l73 S73 => (if x73 = 0 then ((aloop (s260_1 C run a0 a1) C.N [(gd l73 0), AV.int .i64 0] S73).bind fun
  | AOut.norm _ _ => (none)
  | AOut.exit x91 l91 S91 => (if x91 = 2 then (some (AV.bool true, S91)) else (none))
  | AOut.ret l91 S91 => (some ((gd l91 0), S91))) else (none))
  | AOut.ret l73 S73 => (some ((gd l73 0), S73)))
  | AOut.exit x55 l55 S55 => (none)
  | AOut.ret l55 S55 => (some ((gd l55 0), S55))
theorem t260 (N d : Nat) (a0 a1 : AV) (S : St) : R N (d + 1) 260 [a0, a1] S = b260 (cfg N) (R N d) a0 a1 S := by unfold R; kernel_rfl
def s229_0 (C : Cfg) (run : RunT) (a0 : AV) (a1 : AV) (l : List AV) (S : St) : Option AOut :=
  pk (alen a0) S fun r1 =>
  pk (bin2 Tryz.prog .lss 3 ((gd l 1)) r1) S fun r2 =>
  ifA r2
  (pk (pindex 7 a0 ((gd l 1)) S) S fun r3 =>
  pq (call0 run 260 [r3, a1] S) fun r4 =>
  ifA r4
  (some (AOut.ret [(gd l 1), (gd l 1)] S))
  (pk (abin Tryz.prog .add 3 ((gd l 1)) (AV.int .i64 1)) S fun r5 =>
  some (AOut.norm [(gd l 0), r5] S)))
  (some (AOut.exit 0 [(gd l 0), (gd l 1)] S))
def b229 (C : Cfg) (run : RunT) (a0 a1 : AV) (S : St) : OA :=
  (aloop (s229_0 C run a0 a1) C.N [AV.int .i64 0, AV.int .i64 0] S).bind fun
  | AOut.norm _ _ => (none)
  | AOut.exit x6 l6 S6 => (if x6 = 0 then (some (AV.int .i64 (-1), S6)) else (none))
  | AOut.ret l6 S6 => (some ((gd l6 0), S6))
theorem t229 (N d : Nat) (a0 a1 : AV) (S : St) : R N (d + 1) 229 [a0, a1] S = b229 (cfg N) (R N d) a0 a1 S := by unfold R; kernel_rfl
def s188_0 (C : Cfg) (run : RunT) (a0 : AV) (a1 : AV) (l : List AV) (S : St) : Option AOut :=
  pk (alen a1) S fun r3 =>
  pk (bin2 Tryz.prog .lss 3 ((gd l 1)) r3) S fun r4 =>
  ifA r4
  (pk (pindex 7 a1 ((gd l 1)) S) S fun r5 =>
  pq (call0 run 227 [a0, r5] S) fun r6 =>
  pk (abin Tryz.prog .neq 2 r6 (AV.int .i64 0)) S fun r7 =>
  ifA r7
  (some (AOut.ret [r6, (gd l 1)] S))
  (pk (pindex 7 a1 ((gd l 1)) S) S fun r8 =>
  pq (call0 run 228 [r8, (gd l 1)] S) fun r9 =>
  pk (aun .not r9) S fun r10 =>
  ifA r10
  (some (AOut.ret [AV.int .i64 4, (gd l 1)] S))
  (pk (pindex 7 a1 ((gd l 1)) S) S fun r11 =>
  pq (call0 run 229 [a1, r11] S) fun r12 =>
  pk (bin2 Tryz.prog .neq 3 r12 ((gd l 1))) S fun r13 =>
  ifA r13
  (some (AOut.ret [AV.int .i64 6, (gd l 1)] S))
  (pk (abin Tryz.prog .add 3 ((gd l 1)) (AV.int .i64 1)) S fun r14 =>
  some (AOut.norm [(gd l 0), r14] S)))))
  (some (AOut.exit 0 [(gd l 0), (gd l 1)] S))
def b188 (C : Cfg) (run : RunT) (a0 a1 : AV) (S : St) : OA :=
  pk (alen a1) S fun r1 =>
  pk (abin Tryz.prog .gtr 3 r1 (AV.int .i64 240)) S fun r2 =>
  ifA r2
  (some (AV.int .i64 2, S))
  ((aloop (s188_0 C run a0 a1) C.N [AV.int .i64 0, AV.int .i64 0] S).bind fun
  | AOut.norm _ _ => (none)
  | AOut.exit x15 l15 S15 => (if x15 = 0 then (some (AV.int .i64 0, S15)) else (none))
  | AOut.ret l15 S15 => (some ((gd l15 0), S15)))
theorem t188 (N d : Nat) (a0 a1 : AV) (S : St) : R N (d + 1) 188 [a0, a1] S = b188 (cfg N) (R N d) a0 a1 S := by unfold R; kernel_rfl
def b120 (C : Cfg) (run : RunT) (a0 a1 : AV) (S : St) : OA :=
  pq (call0 run 187 [a0] S) fun r1 =>
  pk (aun .not r1) S fun r2 =>
  ifA r2
  (some (AV.int .i64 3, S))
  (pq (call0 run 188 [a0, a1] S) fun r3 =>
  some (r3, S))
theorem t120 (N d : Nat) (a0 a1 : AV) (S : St) : R N (d + 1) 120 [a0, a1] S = b120 (cfg N) (R N d) a0 a1 S := by unfold R; kernel_rfl
def s121_0 (C : Cfg) (run : RunT) (a0 : AV) (a1 : AV) (l : List AV) (S : St) : Option AOut :=
  pk (alen a1) S fun r3 =>
  pk (bin2 Tryz.prog .lss 3 ((gd l 1)) r3) S fun r4 =>
  ifA r4
  ((pk (pindex 1 a1 ((gd l 1)) S) S fun r5 =>
  pk (ld1 S r5) S fun r6 =>
  pq (call0 run 189 [a0, r6] S) fun r7 =>
  pk (aun .not r7) S fun r8 =>
  ifA r8
  (some (AOut.ret [AV.int .i64 3] S))
  (pk (abin Tryz.prog .gtr 3 ((gd l 1)) (AV.int .i64 0)) S fun r9 =>
  guardA r9 true
  (pk (pindex 1 a1 ((gd l 1)) S) S fun r10 =>
  pk (ld1 S r10) S fun r11 =>
  pk (abin Tryz.prog .sub 3 ((gd l 1)) (AV.int .i64 1)) S fun r12 =>
  pk (pindex 1 a1 r12 S) S fun r13 =>
  pk (ld1 S r13) S fun r14 =>
  pk (bin2 Tryz.prog .leq 2 r11 r14) S fun r15 =>
  ifA r15
  (some (AOut.ret [AV.int .i64 1] S))
  (some (AOut.norm [(gd l 0)] S)))
  (some (AOut.norm [(gd l 0)] S)))).bind fun
  | AOut.norm l16 S16 => (pk (abin Tryz.prog .add 3 ((gd l 1)) (AV.int .i64 1)) S16 fun r17 =>
  some (AOut.norm [(gd l16 0), r17] S16))
  | AOut.exit x16 l16 S16 => (some (AOut.exit x16 [(gd l16 0), (gd l 1)] S16))
  | AOut.ret l16 S16 => (some (AOut.ret [(gd l16 0), (gd l 1)] S16)))
  (some (AOut.exit 0 [(gd l 0), (gd l 1)] S))
def b121 (C : Cfg) (run : RunT) (a0 a1 : AV) (S : St) : OA :=
  pk (alen a1) S fun r1 =>
  pk (bin2 Tryz.prog .gtr 2 r1 a0) S fun r2 =>
  ifA r2
  (some (AV.int .i64 2, S))
  ((aloop (s121_0 C run a0 a1) C.N [AV.int .i64 0, AV.int .i64 0] S).bind fun
  | AOut.norm _ _ => (none)
  | AOut.exit x18 l18 S18 => (if x18 = 0 then (some (AV.int .i64 0, S18)) else (none))
  | AOut.ret l18 S18 => (some ((gd l18 0), S18)))
theorem t121 (N d : Nat) (a0 a1 : AV) (S : St) : R N (d + 1) 121 [a0, a1] S = b121 (cfg N) (R N d) a0 a1 S := by unfold R; kernel_rfl
def s80_0 (C : Cfg) (run : RunT) (a0 : AV) (a1 : AV) (l : List AV) (S : St) : Option AOut :=
  pk (alen a0) S fun r1 =>
  pk (bin2 Tryz.prog .lss 3 ((gd l 1)) r1) S fun r2 =>
  ifA r2
  (pk (pindex 1 a0 ((gd l 1)) S) S fun r3 =>
  pk (ld1 S r3) S fun r4 =>
  pk (bin2 Tryz.prog .eql 2 r4 a1) S fun r5 =>
  ifA r5
  (some (AOut.ret [AV.bool true, (gd l 1)] S))
  (pk (abin Tryz.prog .add 3 ((gd l 1)) (AV.int .i64 1)) S fun r6 =>
  some (AOut.norm [(gd l 0), r6] S)))
  (some (AOut.exit 0 [(gd l 0), (gd l 1)] S))
def b80 (C : Cfg) (run : RunT) (a0 a1 : AV) (S : St) : OA :=
  (aloop (s80_0 C run a0 a1) C.N [AV.bool false, AV.int .i64 0] S).bind fun
  | AOut.norm _ _ => (none)
  | AOut.exit x7 l7 S7 => (if x7 = 0 then (some (AV.bool false, S7)) else (none))
  | AOut.ret l7 S7 => (some ((gd l7 0), S7))
theorem t80 (N d : Nat) (a0 a1 : AV) (S : St) : R N (d + 1) 80 [a0, a1] S = b80 (cfg N) (R N d) a0 a1 S := by unfold R; kernel_rfl
def b180 (C : Cfg) (run : RunT) (a0 : AV) (S : St) : OA :=
  pk (abin Tryz.prog .mul 2 (AV.int .i64 2) a0) S fun r1 =>
  pk (abin Tryz.prog .add 2 r1 (AV.int .i64 1)) S fun r2 =>
  some (r2, S)
theorem t180 (N d : Nat) (a0 : AV) (S : St) : R N (d + 1) 180 [a0] S = b180 (cfg N) (R N d) a0 S := by unfold R; kernel_rfl
def s207_0 (C : Cfg) (run : RunT) (a0 : AV) (a1 : AV) (a2 : AV) (r1 : AV) (l : List AV) (S : St) : Option AOut :=
  pk (abin Tryz.prog .mul 2 (AV.int .i64 3) a0) S fun r3 =>
  pk (abin Tryz.prog .add 2 r3 (AV.int .i64 1)) S fun r4 =>
  pk (bin2 Tryz.prog .leq 2 ((gd l 1)) r4) S fun r5 =>
  ifA r5
  ((pk (pfield r1 1 1) S fun r6 =>
  pk (ld1 S r6) S fun r7 =>
  pk (pfield r1 0 1) S fun r8 =>
  pk (ld1 S r8) S fun r9 =>
  pk (pfield r1 2 1) S fun r10 =>
  pk (ld1 S r10) S fun r11 =>
  pk (abuild Tryz.prog 103 [(0, a2), (1, r7), (2, (gd l 1)), (3, r9), (4, r11)]) S fun r12 =>
  pe (some (newBox S [AV.int .i64 0, AV.int .i64 0, AV.int .i64 0, AV.int .i64 0, AV.int .i64 0, AV.rsl false true [], AV.rsl false true []])) fun r13 S13 =>
  pe (storeA 7 r13 r12 S13) fun r14 S14 =>
  pq (call0 run 229 [a1, r13] S14) fun r15 =>
  pk (abin Tryz.prog .geq 3 r15 (AV.int .i64 0)) S14 fun r16 =>
  ifA r16
  (pe (abuildS Tryz.prog 22 1 [(0, (gd l 1))] S14) fun r17 S17 =>
  pe (appA 1 8 ((gd l 0)) r17 S17) fun r18 S18 =>
  some (AOut.norm [r18] S18))
  (some (AOut.norm [(gd l 0)] S14))).bind fun
  | AOut.norm l19 S19 => (pk (abin Tryz.prog .add 2 ((gd l 1)) (AV.int .i64 1)) S19 fun r20 =>
  some (AOut.norm [(gd l19 0), r20] S19))
  | AOut.exit x19 l19 S19 => (some (AOut.exit x19 [(gd l19 0), (gd l 1)] S19))
  | AOut.ret l19 S19 => (some (AOut.ret [(gd l19 0), (gd l 1)] S19)))
  (some (AOut.exit 0 [(gd l 0), (gd l 1)] S))
def b207 (C : Cfg) (run : RunT) (a0 a1 a2 a3 : AV) (S : St) : OA :=
  pe (boxA a3 S) fun r1 S1 =>
  pe (abuildS Tryz.prog 22 0 [] S1) fun r2 S2 =>
  (aloop (s207_0 C run a0 a1 a2 r1) C.N [r2, AV.int .i64 1] S2).bind fun
  | AOut.norm _ _ => (none)
  | AOut.exit x21 l21 S21 => (if x21 = 0 then (some ((gd l21 0), S21)) else (none))
  | AOut.ret l21 S21 => (some (AV.rsl false true [], S21))
theorem t207 (N d : Nat) (a0 a1 a2 a3 : AV) (S : St) : R N (d + 1) 207 [a0, a1, a2, a3] S = b207 (cfg N) (R N d) a0 a1 a2 a3 S := by unfold R; kernel_rfl
def b143 (C : Cfg) (run : RunT) (a0 a1 a2 a3 : AV) (S : St) : OA :=
  pe (boxA a3 S) fun r1 S1 =>
  pk (ldA S1 r1 3) S1 fun r2 =>
  pq (call0 run 207 [a0, a1, a2, r2] S1) fun r3 =>
  pk (alen r3) S1 fun r4 =>
  pq (call0 run 180 [a0] S1) fun r5 =>
  pk (bin2 Tryz.prog .geq 2 r4 r5) S1 fun r6 =>
  some (r6, S1)
theorem t143 (N d : Nat) (a0 a1 a2 a3 : AV) (S : St) : R N (d + 1) 143 [a0, a1, a2, a3] S = b143 (cfg N) (R N d) a0 a1 a2 a3 S := by unfold R; kernel_rfl
def s76_0 (C : Cfg) (run : RunT) (a0 : AV) (a1 : AV) (a2 : AV) (l : List AV) (l3 : List AV) (S : St) : Option AOut :=
  ((pk (alen a1) S fun r4 =>
  pk (bin2 Tryz.prog .lss 3 ((gd l3 1)) r4) S fun r5 =>
  guardA r5 true
  (pk (aun .not ((gd l3 0))) S fun r6 =>
  some (AOut.norm [r6] S))
  (some (AOut.norm [AV.bool false] S))).bind fun
  | AOut.norm l7 S7 => (ifA ((gd l7 0))
  (some (AOut.norm [(gd l7 0)] S7))
  (some (AOut.exit 2 [(gd l7 0)] S7)))
  | AOut.exit x7 l7 S7 => (some (AOut.exit x7 [(gd l7 0)] S7))
  | AOut.ret l7 S7 => (some (AOut.ret [(gd l7 0)] S7))).bind fun
  | AOut.norm l8 S8 => ((pk (pindex 7 a1 ((gd l3 1)) S8) S8 fun r9 =>
  (pq (nilA r9 S8) fun r10 =>
  pk (pfield r10 0 1) S8 fun r11 =>
  pk (ld1 S8 r11) S8 fun r12 =>
  pk (abin Tryz.prog .eql 2 r12 (AV.int .i64 3)) S8 fun r13 =>
  guardA r13 true
  (pq (nilA r9 S8) fun r14 =>
  pk (pfield r14 3 1) S8 fun r15 =>
  pk (ld1 S8 r15) S8 fun r16 =>
  pk (bin2 Tryz.prog .eql 2 r16 a2) S8 fun r17 =>
  guardA r17 true
  (pq (nilA r9 S8) fun r18 =>
  pk (pfield r18 4 1) S8 fun r19 =>
  pk (ld1 S8 r19) S8 fun r20 =>
  pk (bin2 Tryz.prog .eql 2 r20 ((gd l 1))) S8 fun r21 =>
  some (AOut.norm [r21] S8))
  (some (AOut.norm [AV.bool false] S8)))
  (some (AOut.norm [AV.bool false] S8))).bind fun
  | AOut.norm l22 S22 => (ifA ((gd l22 0))
  (pq (nilA r9 S22) fun r23 =>
  pk (pfield r23 1 1) S22 fun r24 =>
  pk (ld1 S22 r24) S22 fun r25 =>
  pk (abuild Tryz.prog 161 [(0, a2), (1, r25), (2, (gd l 1))]) S22 fun r26 =>
  pq (call0 run 143 [a0, a1, AV.int .i64 3, r26] S22) fun r27 =>
  some (AOut.norm [r27] S22))
  (some (AOut.norm [(gd l3 0)] S22)))
  | AOut.exit x22 l22 S22 => (if x22 = 3 then (some (AOut.norm [(gd l3 0)] S22)) else (some (AOut.exit x22 [(gd l3 0)] S22)))
  | AOut.ret l22 S22 => (some (AOut.ret [(gd l3 0)] S22))).bind fun
  | AOut.norm l28 S28 => (pk (abin Tryz.prog .add 3 ((gd l3 1)) (AV.int .i64 1)) S28 fun r29 =>
  some (AOut.norm [(gd l28 0), r29] S28))
  | AOut.exit x28 l28 S28 => (some (AOut.exit x28 [(gd l28 0), (gd l3 1)] S28))
  | AOut.ret l28 S28 => (some (AOut.ret [(gd l28 0), (gd l3 1)] S28)))
  | AOut.exit x8 l8 S8 => (some (AOut.exit x8 [(gd l3 0), (gd l3 1)] S8))
  | AOut.ret l8 S8 => (some (AOut.ret [(gd l3 0), (gd l3 1)] S8))
def s76_1 (C : Cfg) (run : RunT) (a0 : AV) (a1 : AV) (a2 : AV) (l : List AV) (S : St) : Option AOut :=
  pk (abin Tryz.prog .leq 2 ((gd l 1)) (AV.int .i64 12)) S fun r2 =>
  ifA r2
  (((aloop (s76_0 C run a0 a1 a2 l) C.N [AV.bool false, AV.int .i64 0] S).bind fun
  | AOut.norm _ _ => (none)
  | AOut.exit x30 l30 S30 => (if x30 = 2 then (ifA ((gd l30 0))
  (pe (abuildS Tryz.prog 22 1 [(0, (gd l 1))] S30) fun r31 S31 =>
  pe (appA 1 8 ((gd l 0)) r31 S31) fun r32 S32 =>
  some (AOut.norm [r32] S32))
  (some (AOut.norm [(gd l 0)] S30))) else (if x30 = 1 then (some (AOut.norm [(gd l 0)] S30)) else (some (AOut.exit x30 [(gd l 0)] S30))))
  | AOut.ret l30 S30 => (some (AOut.ret [(gd l 0)] S30))).bind fun
  | AOut.norm l33 S33 => (pk (abin Tryz.prog .add 2 ((gd l 1)) (AV.int .i64 1)) S33 fun r34 =>
  some (AOut.norm [(gd l33 0), r34] S33))
  | AOut.exit x33 l33 S33 => (some (AOut.exit x33 [(gd l33 0), (gd l 1)] S33))
  | AOut.ret l33 S33 => (some (AOut.ret [(gd l33 0), (gd l 1)] S33)))
  (some (AOut.exit 0 [(gd l 0), (gd l 1)] S))
def b76 (C : Cfg) (run : RunT) (a0 a1 a2 : AV) (S : St) : OA :=
  pe (abuildS Tryz.prog 22 0 [] S) fun r1 S1 =>
  (aloop (s76_1 C run a0 a1 a2) C.N [r1, AV.int .i64 0] S1).bind fun
  | AOut.norm _ _ => (none)
  | AOut.exit x35 l35 S35 => (if x35 = 0 then (some ((gd l35 0), S35)) else (none))
  | AOut.ret l35 S35 => (some (AV.rsl false true [], S35))
theorem t76 (N d : Nat) (a0 a1 a2 : AV) (S : St) : R N (d + 1) 76 [a0, a1, a2] S = b76 (cfg N) (R N d) a0 a1 a2 S := by unfold R; kernel_rfl
def s88_0 (C : Cfg) (run : RunT) (a0 : AV) (a1 : AV) (l : List AV) (S : St) : Option AOut :=
  pk (abin Tryz.prog .leq 2 ((gd l 2)) (AV.int .i64 30)) S fun r2 =>
  ifA r2
  (pq (call0 run 76 [a0, a1, (gd l 2)] S) fun r3 =>
  pk (alen r3) S fun r4 =>
  pk (abin Tryz.prog .eql 3 r4 (AV.int .i64 0)) S fun r5 =>
  ifA r5
  (some (AOut.ret [(gd l 1), (gd l 1), (gd l 2)] S))
  (pk (pindex 1 r3 (AV.int .i64 0) S) S fun r6 =>
  pk (ld1 S r6) S fun r7 =>
  pe (abuildS Tryz.prog 22 1 [(0, r7)] S) fun r8 S8 =>
  pe (appA 1 8 ((gd l 1)) r8 S8) fun r9 S9 =>
  pk (abin Tryz.prog .add 2 ((gd l 2)) (AV.int .i64 1)) S9 fun r10 =>
  some (AOut.norm [(gd l 0), r9, r10] S9)))
  (some (AOut.exit 0 [(gd l 0), (gd l 1), (gd l 2)] S))
def b88 (C : Cfg) (run : RunT) (a0 a1 : AV) (S : St) : OA :=
  pe (abuildS Tryz.prog 22 0 [] S) fun r1 S1 =>
  (aloop (s88_0 C run a0 a1) C.N [AV.rsl false true [], r1, AV.int .i64 1] S1).bind fun
  | AOut.norm _ _ => (none)
  | AOut.exit x11 l11 S11 => (if x11 = 0 then (some ((gd l11 1), S11)) else (none))
  | AOut.ret l11 S11 => (some ((gd l11 0), S11))
theorem t88 (N d : Nat) (a0 a1 : AV) (S : St) : R N (d + 1) 88 [a0, a1] S = b88 (cfg N) (R N d) a0 a1 S := by unfold R; kernel_rfl
def b147 (C : Cfg) (run : RunT) (a0 a1 a2 : AV) (S : St) : OA :=
  pk (alen a0) S fun r1 =>
  pk (abin Tryz.prog .sub 2 r1 (AV.int .i64 1)) S fun r2 =>
  pq (call0 run 169 [a1, AV.int .i64 0, r2] S) fun r3 =>
  guardA r3 true
  (pk (pindex 7 a0 a1 S) S fun r4 =>
  pk (pfield r4 0 1) S fun r5 =>
  pk (ld1 S r5) S fun r6 =>
  pk (bin2 Tryz.prog .eql 2 r6 a2) S fun r7 =>
  some (r7, S))
  (some (AV.bool false, S))
theorem t147 (N d : Nat) (a0 a1 a2 : AV) (S : St) : R N (d + 1) 147 [a0, a1, a2] S = b147 (cfg N) (R N d) a0 a1 a2 S := by unfold R; kernel_rfl
def s81_0 (C : Cfg) (run : RunT) (a0 : AV) (a1 : AV) (a2 : AV) (l : List AV) (S : St) : Option AOut :=
  pk (pindex 7 a1 a2 S) S fun r8 =>
  pk (pfield r8 5 1) S fun r9 =>
  pk (ld1 S r9) S fun r10 =>
  pk (alen r10) S fun r11 =>
  pk (bin2 Tryz.prog .lss 3 ((gd l 1)) r11) S fun r12 =>
  ifA r12
  (pk (pindex 7 a1 a2 S) S fun r13 =>
  pk (pfield r13 5 1) S fun r14 =>
  pk (ld1 S r14) S fun r15 =>
  pk (pindex 3 r15 ((gd l 1)) S) S fun r16 =>
  pk (ldA S r16 3) S fun r17 =>
  pq (call0 run 143 [a0, a1, AV.int .i64 2, r17] S) fun r18 =>
  pk (aun .not r18) S fun r19 =>
  ifA r19
  (some (AOut.ret [AV.bool false, (gd l 1)] S))
  (pk (abin Tryz.prog .add 3 ((gd l 1)) (AV.int .i64 1)) S fun r20 =>
  some (AOut.norm [(gd l 0), r20] S)))
  (some (AOut.exit 0 [(gd l 0), (gd l 1)] S))
def b81 (C : Cfg) (run : RunT) (a0 a1 a2 : AV) (S : St) : OA :=
  (pq (call0 run 147 [a1, a2, AV.int .i64 4] S) fun r1 =>
  pk (aun .not r1) S fun r2 =>
  guardA r2 false
  (pk (pindex 7 a1 a2 S) S fun r3 =>
  pk (pfield r3 1 1) S fun r4 =>
  pk (ld1 S r4) S fun r5 =>
  pk (abin Tryz.prog .lss 2 r5 (AV.int .i64 1)) S fun r6 =>
  ifA r6
  (some (AOut.ret [AV.bool false] S))
  (some (AOut.norm [AV.bool false] S)))
  (some (AOut.ret [AV.bool false] S))).bind fun
  | AOut.norm l7 S7 => ((aloop (s81_0 C run a0 a1 a2) C.N [(gd l7 0), AV.int .i64 0] S7).bind fun
  | AOut.norm _ _ => (none)
  | AOut.exit x21 l21 S21 => (if x21 = 0 then (some (AV.bool true, S21)) else (none))
  | AOut.ret l21 S21 => (some ((gd l21 0), S21)))
  | AOut.exit x7 l7 S7 => (none)
  | AOut.ret l7 S7 => (some ((gd l7 0), S7))
theorem t81 (N d : Nat) (a0 a1 a2 : AV) (S : St) : R N (d + 1) 81 [a0, a1, a2] S = b81 (cfg N) (R N d) a0 a1 a2 S := by unfold R; kernel_rfl
def b157 (C : Cfg) (run : RunT) (a0 a1 : AV) (S : St) : OA :=
  pk (abin Tryz.prog .mul 2 (AV.int .i64 3) a0) S fun r1 =>
  pk (abin Tryz.prog .add 2 r1 (AV.int .i64 1)) S fun r2 =>
  pk (bin2 Tryz.prog .rem 2 a1 r2) S fun r3 =>
  pk (abin Tryz.prog .add 2 (AV.int .i64 1) r3) S fun r4 =>
  some (r4, S)
theorem t157 (N d : Nat) (a0 a1 : AV) (S : St) : R N (d + 1) 157 [a0, a1] S = b157 (cfg N) (R N d) a0 a1 S := by unfold R; kernel_rfl
def s181_0 (C : Cfg) (run : RunT) (a0 : AV) (a1 : AV) (a2 : AV) (l : List AV) (S : St) : Option AOut :=
  pk (alen a1) S fun r1 =>
  pk (bin2 Tryz.prog .lss 3 ((gd l 1)) r1) S fun r2 =>
  ifA r2
  (pk (pindex 1 a1 ((gd l 1)) S) S fun r3 =>
  pk (ld1 S r3) S fun r4 =>
  pk (pindex 7 a0 r4 S) S fun r5 =>
  pk (pfield r5 2 1) S fun r6 =>
  pk (ld1 S r6) S fun r7 =>
  pk (bin2 Tryz.prog .eql 2 r7 a2) S fun r8 =>
  ifA r8
  (some (AOut.ret [AV.bool true, (gd l 1)] S))
  (pk (abin Tryz.prog .add 3 ((gd l 1)) (AV.int .i64 1)) S fun r9 =>
  some (AOut.norm [(gd l 0), r9] S)))
  (some (AOut.exit 0 [(gd l 0), (gd l 1)] S))
def b181 (C : Cfg) (run : RunT) (a0 a1 a2 : AV) (S : St) : OA :=
  (aloop (s181_0 C run a0 a1 a2) C.N [AV.bool false, AV.int .i64 0] S).bind fun
  | AOut.norm _ _ => (none)
  | AOut.exit x10 l10 S10 => (if x10 = 0 then (some (AV.bool false, S10)) else (none))
  | AOut.ret l10 S10 => (some ((gd l10 0), S10))
theorem t181 (N d : Nat) (a0 a1 a2 : AV) (S : St) : R N (d + 1) 181 [a0, a1, a2] S = b181 (cfg N) (R N d) a0 a1 a2 S := by unfold R; kernel_rfl
def s115_0 (C : Cfg) (run : RunT) (a0 : AV) (a1 : AV) (r3 : AV) (l : List AV) (S : St) : Option AOut :=
  pq (nilA r3 S) fun r24 =>
  pk (pfield r24 6 1) S fun r25 =>
  pk (ld1 S r25) S fun r26 =>
  pk (alen r26) S fun r27 =>
  pk (bin2 Tryz.prog .lss 3 ((gd l 1)) r27) S fun r28 =>
  ifA r28
  (((pq (nilA r3 S) fun r29 =>
  pk (pfield r29 6 1) S fun r30 =>
  pk (ld1 S r30) S fun r31 =>
  pk (pindex 1 r31 ((gd l 1)) S) S fun r32 =>
  pk (ld1 S r32) S fun r33 =>
  pq (call0 run 81 [a0, a1, r33] S) fun r34 =>
  pk (aun .not r34) S fun r35 =>
  guardA r35 false
  (pq (nilA r3 S) fun r36 =>
  pk (pfield r36 6 1) S fun r37 =>
  pk (ld1 S r37) S fun r38 =>
  pk (pindex 1 r38 ((gd l 1)) S) S fun r39 =>
  pk (ld1 S r39) S fun r40 =>
  pk (pindex 7 a1 r40 S) S fun r41 =>
  pk (pfield r41 1 1) S fun r42 =>
  pk (ld1 S r42) S fun r43 =>
  pq (nilA r3 S) fun r44 =>
  pk (pfield r44 1 1) S fun r45 =>
  pk (ld1 S r45) S fun r46 =>
  pk (bin2 Tryz.prog .neq 2 r43 r46) S fun r47 =>
  guardA r47 false
  (pq (nilA r3 S) fun r48 =>
  pk (pfield r48 6 1) S fun r49 =>
  pk (ld1 S r49) S fun r50 =>
  pq (sliceA 1 r50 none (some ((gd l 1))) none S) fun r51 =>
  pq (nilA r3 S) fun r52 =>
  pk (pfield r52 6 1) S fun r53 =>
  pk (ld1 S r53) S fun r54 =>
  pk (pindex 1 r54 ((gd l 1)) S) S fun r55 =>
  pk (ld1 S r55) S fun r56 =>
  pk (pindex 7 a1 r56 S) S fun r57 =>
  pk (pfield r57 2 1) S fun r58 =>
  pk (ld1 S r58) S fun r59 =>
  pq (call0 run 181 [a1, r51, r59] S) fun r60 =>
  some (AOut.norm [r60] S))
  (some (AOut.norm [AV.bool true] S)))
  (some (AOut.norm [AV.bool true] S))).bind fun
  | AOut.norm l61 S61 => (ifA ((gd l61 0))
  (some (AOut.ret [AV.bool false] S61))
  (some (AOut.norm [(gd l 0)] S61)))
  | AOut.exit x61 l61 S61 => (if x61 = 1 then (some (AOut.norm [(gd l 0)] S61)) else (some (AOut.exit x61 [(gd l 0)] S61)))
  | AOut.ret l61 S61 => (some (AOut.ret [(gd l 0)] S61))).bind fun
  | AOut.norm l62 S62 => (pk (abin Tryz.prog .add 3 ((gd l 1)) (AV.int .i64 1)) S62 fun r63 =>
  some (AOut.norm [(gd l62 0), r63] S62))
  | AOut.exit x62 l62 S62 => (some (AOut.exit x62 [(gd l62 0), (gd l 1)] S62))
  | AOut.ret l62 S62 => (some (AOut.ret [(gd l62 0), (gd l 1)] S62)))
  (some (AOut.exit 0 [(gd l 0), (gd l 1)] S))
def b115 (C : Cfg) (run : RunT) (a0 a1 a2 : AV) (S : St) : OA :=
  pq (call0 run 147 [a1, a2, AV.int .i64 5] S) fun r1 =>
  pk (aun .not r1) S fun r2 =>
  ifA r2
  (some (AV.bool false, S))
  (pk (pindex 7 a1 a2 S) S fun r3 =>
  ((pq (nilA r3 S) fun r4 =>
  pk (pfield r4 1 1) S fun r5 =>
  pk (ld1 S r5) S fun r6 =>
  pk (abin Tryz.prog .lss 2 r6 (AV.int .i64 1)) S fun r7 =>
  guardA r7 false
  (pq (nilA r3 S) fun r8 =>
  pk (pfield r8 2 1) S fun r9 =>
  pk (ld1 S r9) S fun r10 =>
  pq (nilA r3 S) fun r11 =>
  pk (pfield r11 1 1) S fun r12 =>
  pk (ld1 S r12) S fun r13 =>
  pq (call0 run 157 [a0, r13] S) fun r14 =>
  pk (bin2 Tryz.prog .neq 2 r10 r14) S fun r15 =>
  guardA r15 false
  (pq (nilA r3 S) fun r16 =>
  pk (pfield r16 6 1) S fun r17 =>
  pk (ld1 S r17) S fun r18 =>
  pk (alen r18) S fun r19 =>
  pq (call0 run 180 [a0] S) fun r20 =>
  pk (bin2 Tryz.prog .lss 2 r19 r20) S fun r21 =>
  some (AOut.norm [r21] S))
  (some (AOut.norm [AV.bool true] S)))
  (some (AOut.norm [AV.bool true] S))).bind fun
  | AOut.norm l22 S22 => (ifA ((gd l22 0))
  (some (AOut.ret [AV.bool false] S22))
  (some (AOut.norm [AV.bool false] S22)))
  | AOut.exit x22 l22 S22 => (some (AOut.exit x22 [AV.bool false] S22))
  | AOut.ret l22 S22 => (some (AOut.ret [AV.bool false] S22))).bind fun
  | AOut.norm l23 S23 => ((aloop (s115_0 C run a0 a1 r3) C.N [(gd l23 0), AV.int .i64 0] S23).bind fun
  | AOut.norm _ _ => (none)
  | AOut.exit x64 l64 S64 => (if x64 = 0 then (some (AV.bool true, S64)) else (none))
  | AOut.ret l64 S64 => (some ((gd l64 0), S64)))
  | AOut.exit x23 l23 S23 => (none)
  | AOut.ret l23 S23 => (some ((gd l23 0), S23)))
theorem t115 (N d : Nat) (a0 a1 a2 : AV) (S : St) : R N (d + 1) 115 [a0, a1, a2] S = b115 (cfg N) (R N d) a0 a1 a2 S := by unfold R; kernel_rfl
def b230 (C : Cfg) (run : RunT) (a0 a1 a2 a3 : AV) (S : St) : OA :=
  pk (abin Tryz.prog .eql 2 a2 (AV.int .i64 0)) S fun r1 =>
  ifA r1
  (pk (abin Tryz.prog .eql 2 a3 (AV.int .i64 (-1))) S fun r2 =>
  some (r2, S))
  (pq (call0 run 115 [a0, a1, a3] S) fun r3 =>
  guardA r3 true
  (pk (pindex 7 a1 a3 S) S fun r4 =>
  pk (pfield r4 1 1) S fun r5 =>
  pk (ld1 S r5) S fun r6 =>
  pk (bin2 Tryz.prog .eql 2 r6 a2) S fun r7 =>
  some (r7, S))
  (some (AV.bool false, S)))
theorem t230 (N d : Nat) (a0 a1 a2 a3 : AV) (S : St) : R N (d + 1) 230 [a0, a1, a2, a3] S = b230 (cfg N) (R N d) a0 a1 a2 a3 S := by unfold R; kernel_rfl
def b190 (C : Cfg) (run : RunT) (a0 a1 a2 : AV) (S : St) : OA :=
  ((pq (nilA a2 S) fun r1 =>
  pk (pfield r1 0 1) S fun r2 =>
  pk (ld1 S r2) S fun r3 =>
  pq (call0 run 189 [a0, r3] S) fun r4 =>
  pk (aun .not r4) S fun r5 =>
  guardA r5 false
  (pq (nilA a2 S) fun r6 =>
  pk (pfield r6 1 1) S fun r7 =>
  pk (ld1 S r7) S fun r8 =>
  pq (call0 run 169 [r8, AV.int .i64 0, AV.int .i64 20] S) fun r9 =>
  pk (aun .not r9) S fun r10 =>
  guardA r10 false
  (pq (nilA a2 S) fun r11 =>
  pk (pfield r11 3 1) S fun r12 =>
  pk (ld1 S r12) S fun r13 =>
  pq (call0 run 169 [r13, AV.int .i64 0, AV.int .i64 30] S) fun r14 =>
  pk (aun .not r14) S fun r15 =>
  some (AOut.norm [r15] S))
  (some (AOut.norm [AV.bool true] S)))
  (some (AOut.norm [AV.bool true] S))).bind fun
  | AOut.norm l16 S16 => (ifA ((gd l16 0))
  (some (AOut.ret [AV.int .i64 3] S16))
  (some (AOut.norm [AV.int .i64 0] S16)))
  | AOut.exit x16 l16 S16 => (some (AOut.exit x16 [AV.int .i64 0] S16))
  | AOut.ret l16 S16 => (some (AOut.ret [AV.int .i64 0] S16))).bind fun
  | AOut.norm l17 S17 => (((pq (nilA a2 S17) fun r18 =>
  pk (pfield r18 2 1) S17 fun r19 =>
  pk (ld1 S17 r19) S17 fun r20 =>
  pk (abin Tryz.prog .neq 2 r20 (AV.int .i64 (-1))) S17 fun r21 =>
  guardA r21 true
  (pq (nilA a2 S17) fun r22 =>
  pk (pfield r22 1 1) S17 fun r23 =>
  pk (ld1 S17 r23) S17 fun r24 =>
  pk (abin Tryz.prog .eql 2 r24 (AV.int .i64 0)) S17 fun r25 =>
  guardA r25 false
  (pq (nilA a2 S17) fun r26 =>
  pk (pfield r26 1 1) S17 fun r27 =>
  pk (ld1 S17 r27) S17 fun r28 =>
  pq (nilA a2 S17) fun r29 =>
  pk (pfield r29 2 1) S17 fun r30 =>
  pk (ld1 S17 r30) S17 fun r31 =>
  pq (call0 run 230 [a0, a1, r28, r31] S17) fun r32 =>
  pk (aun .not r32) S17 fun r33 =>
  some (AOut.norm [r33] S17))
  (some (AOut.norm [AV.bool true] S17)))
  (some (AOut.norm [AV.bool false] S17))).bind fun
  | AOut.norm l34 S34 => (ifA ((gd l34 0))
  (some (AOut.ret [AV.int .i64 1] S34))
  (some (AOut.norm [(gd l17 0)] S34)))
  | AOut.exit x34 l34 S34 => (some (AOut.exit x34 [(gd l17 0)] S34))
  | AOut.ret l34 S34 => (some (AOut.ret [(gd l17 0)] S34))).bind fun
  | AOut.norm l35 S35 => ((pq (nilA a2 S35) fun r36 =>
  pk (pfield r36 3 1) S35 fun r37 =>
  pk (ld1 S35 r37) S35 fun r38 =>
  pk (abin Tryz.prog .gtr 2 r38 (AV.int .i64 0)) S35 fun r39 =>
  guardA r39 true
  (pq (nilA a2 S35) fun r40 =>
  pk (pfield r40 3 1) S35 fun r41 =>
  pk (ld1 S35 r41) S35 fun r42 =>
  pq (call0 run 88 [a0, a1] S35) fun r43 =>
  pk (alen r43) S35 fun r44 =>
  pk (bin2 Tryz.prog .gtr 2 r42 r44) S35 fun r45 =>
  ifA r45
  (some (AOut.ret [AV.int .i64 8] S35))
  (some (AOut.norm [(gd l35 0)] S35)))
  (some (AOut.norm [(gd l35 0)] S35))).bind fun
  | AOut.norm l46 S46 => (some (AV.int .i64 0, S46))
  | AOut.exit x46 l46 S46 => (none)
  | AOut.ret l46 S46 => (some ((gd l46 0), S46)))
  | AOut.exit x35 l35 S35 => (none)
  | AOut.ret l35 S35 => (some ((gd l35 0), S35)))
  | AOut.exit x17 l17 S17 => (none)
  | AOut.ret l17 S17 => (some ((gd l17 0), S17))
theorem t190 (N d : Nat) (a0 a1 a2 : AV) (S : St) : R N (d + 1) 190 [a0, a1, a2] S = b190 (cfg N) (R N d) a0 a1 a2 S := by unfold R; kernel_rfl
def s122_0 (C : Cfg) (run : RunT) (a0 : AV) (l : List AV) (S : St) : Option AOut :=
  pq (nilA a0 S) fun r1 =>
  pk (pfield r1 0 1) S fun r2 =>
  pk (ld1 S r2) S fun r3 =>
  pk (abin Tryz.prog .mul 2 (AV.int .i64 3) r3) S fun r4 =>
  pk (abin Tryz.prog .add 2 r4 (AV.int .i64 1)) S fun r5 =>
  pk (bin2 Tryz.prog .leq 2 ((gd l 2)) r5) S fun r6 =>
  ifA r6
  ((pq (nilA a0 S) fun r7 =>
  pk (pfield r7 1 1) S fun r8 =>
  pk (ld1 S r8) S fun r9 =>
  pq (call0 run 80 [r9, (gd l 2)] S) fun r10 =>
  ifA r10
  (some (AOut.norm [(gd l 0), (gd l 1)] S))
  ((pq (nilA a0 S) fun r11 =>
  pk (pfield r11 2 1) S fun r12 =>
  pk (ld1 S r12) S fun r13 =>
  pk (alen r13) S fun r14 =>
  pk (bin2 Tryz.prog .geq 3 ((gd l 1)) r14) S fun r15 =>
  guardA r15 false
  (pq (nilA a0 S) fun r16 =>
  pk (pfield r16 2 1) S fun r17 =>
  pk (ld1 S r17) S fun r18 =>
  pk (pindex 4 r18 ((gd l 1)) S) S fun r19 =>
  pk (pfield r19 0 1) S fun r20 =>
  pk (ld1 S r20) S fun r21 =>
  pk (bin2 Tryz.prog .neq 2 r21 ((gd l 2))) S fun r22 =>
  ifA r22
  (some (AOut.ret [AV.int .i64 1] S))
  (some (AOut.norm [(gd l 0)] S)))
  (some (AOut.ret [AV.int .i64 1] S))).bind fun
  | AOut.norm l23 S23 => (pk (abin Tryz.prog .add 3 ((gd l 1)) (AV.int .i64 1)) S23 fun r24 =>
  some (AOut.norm [(gd l23 0), r24] S23))
  | AOut.exit x23 l23 S23 => (if x23 = 1 then (some (AOut.norm [(gd l23 0), (gd l 1)] S23)) else (some (AOut.exit x23 [(gd l23 0), (gd l 1)] S23)))
  | AOut.ret l23 S23 => (some (AOut.ret [(gd l23 0), (gd l 1)] S23)))).bind fun
  | AOut.norm l25 S25 => (pk (abin Tryz.prog .add 2 ((gd l 2)) (AV.int .i64 1)) S25 fun r26 =>
  some (AOut.norm [(gd l25 0), (gd l25 1), r26] S25))
  | AOut.exit x25 l25 S25 => (some (AOut.exit x25 [(gd l25 0), (gd l25 1), (gd l 2)] S25))
  | AOut.ret l25 S25 => (some (AOut.ret [(gd l25 0), (gd l25 1), (gd l 2)] S25)))
  (some (AOut.exit 0 [(gd l 0), (gd l 1), (gd l 2)] S))
def s122_1 (C : Cfg) (run : RunT) (a0 : AV) (l : List AV) (S : St) : Option AOut :=
  pq (nilA a0 S) fun r33 =>
  pk (pfield r33 2 1) S fun r34 =>
  pk (ld1 S r34) S fun r35 =>
  pk (alen r35) S fun r36 =>
  pk (bin2 Tryz.prog .lss 3 ((gd l 1)) r36) S fun r37 =>
  ifA r37
  (pq (nilA a0 S) fun r38 =>
  pk (pfield r38 0 1) S fun r39 =>
  pk (ld1 S r39) S fun r40 =>
  pq (nilA a0 S) fun r41 =>
  pk (pfield r41 3 1) S fun r42 =>
  pk (ld1 S r42) S fun r43 =>
  pq (nilA a0 S) fun r44 =>
  pk (pfield r44 2 1) S fun r45 =>
  pk (ld1 S r45) S fun r46 =>
  pk (pindex 4 r46 ((gd l 1)) S) S fun r47 =>
  pq (call0 run 190 [r40, r43, r47] S) fun r48 =>
  pk (abin Tryz.prog .neq 2 r48 (AV.int .i64 0)) S fun r49 =>
  ifA r49
  (some (AOut.ret [r48, (gd l 1)] S))
  (pk (abin Tryz.prog .add 3 ((gd l 1)) (AV.int .i64 1)) S fun r50 =>
  some (AOut.norm [(gd l 0), r50] S)))
  (some (AOut.exit 2 [(gd l 0), (gd l 1)] S))
def b122 (C : Cfg) (run : RunT) (a0 : AV) (S : St) : OA :=
  (aloop (s122_0 C run a0) C.N [AV.int .i64 0, AV.int .i64 0, AV.int .i64 1] S).bind fun
  | AOut.norm _ _ => (none)
  | AOut.exit x27 l27 S27 => (if x27 = 0 then (pq (nilA a0 S27) fun r28 =>
  pk (pfield r28 2 1) S27 fun r29 =>
  pk (ld1 S27 r29) S27 fun r30 =>
  pk (alen r30) S27 fun r31 =>
  pk (bin2 Tryz.prog .neq 3 ((gd l27 1)) r31) S27 fun r32 =>
  ifA r32
  (some (AV.int .i64 1, S27))
  ((aloop (s122_1 C run a0) C.N [(gd l27 0), AV.int .i64 0] S27).bind fun
  | AOut.norm _ _ => (none)
  | AOut.exit x51 l51 S51 => (if x51 = 2 then (some (AV.int .i64 0, S51)) else (none))
  | AOut.ret l51 S51 => (some ((gd l51 0), S51)))) else (none))
  | AOut.ret l27 S27 => (some ((gd l27 0), S27))
theorem t122 (N d : Nat) (a0 : AV) (S : St) : R N (d + 1) 122 [a0] S = b122 (cfg N) (R N d) a0 S := by unfold R; kernel_rfl
def s59_0 (C : Cfg) (run : RunT) (a0 : AV) (l : List AV) (S : St) : Option AOut :=
  pq (nilA a0 S) fun r24 =>
  pk (pfield r24 4 1) S fun r25 =>
  pk (ld1 S r25) S fun r26 =>
  pk (alen r26) S fun r27 =>
  pk (bin2 Tryz.prog .lss 3 ((gd l 1)) r27) S fun r28 =>
  ifA r28
  (pq (nilA a0 S) fun r29 =>
  pk (pfield r29 4 1) S fun r30 =>
  pk (ld1 S r30) S fun r31 =>
  pk (pindex 4 r31 ((gd l 1)) S) S fun r32 =>
  pq (call0 run 104 [r32] S) fun r33 =>
  pk (abin Tryz.prog .neq 2 r33 (AV.int .i64 0)) S fun r34 =>
  ifA r34
  (some (AOut.ret [r33, (gd l 1)] S))
  (pq (nilA a0 S) fun r35 =>
  pk (pfield r35 4 1) S fun r36 =>
  pk (ld1 S r36) S fun r37 =>
  pq (nilA a0 S) fun r38 =>
  pk (pfield r38 4 1) S fun r39 =>
  pk (ld1 S r39) S fun r40 =>
  pk (pindex 4 r40 ((gd l 1)) S) S fun r41 =>
  pk (pfield r41 0 1) S fun r42 =>
  pk (ld1 S r42) S fun r43 =>
  pq (nilA a0 S) fun r44 =>
  pk (pfield r44 4 1) S fun r45 =>
  pk (ld1 S r45) S fun r46 =>
  pk (pindex 4 r46 ((gd l 1)) S) S fun r47 =>
  pk (pfield r47 1 1) S fun r48 =>
  pk (ld1 S r48) S fun r49 =>
  pq (call0 run 105 [r37, r43, r49] S) fun r50 =>
  pk (bin2 Tryz.prog .neq 3 r50 ((gd l 1))) S fun r51 =>
  ifA r51
  (some (AOut.ret [AV.int .i64 6, (gd l 1)] S))
  (pk (abin Tryz.prog .add 3 ((gd l 1)) (AV.int .i64 1)) S fun r52 =>
  some (AOut.norm [(gd l 0), r52] S))))
  (some (AOut.exit 0 [(gd l 0), (gd l 1)] S))
def b59 (C : Cfg) (run : RunT) (a0 : AV) (S : St) : OA :=
  pq (nilA a0 S) fun r1 =>
  pk (pfield r1 0 1) S fun r2 =>
  pk (ld1 S r2) S fun r3 =>
  pq (nilA a0 S) fun r4 =>
  pk (pfield r4 3 1) S fun r5 =>
  pk (ld1 S r5) S fun r6 =>
  pq (call0 run 120 [r3, r6] S) fun r7 =>
  pk (abin Tryz.prog .neq 2 r7 (AV.int .i64 0)) S fun r8 =>
  ifA r8
  (some (r7, S))
  (pq (nilA a0 S) fun r9 =>
  pk (pfield r9 4 1) S fun r10 =>
  pk (ld1 S r10) S fun r11 =>
  pk (alen r11) S fun r12 =>
  pk (abin Tryz.prog .gtr 3 r12 (AV.int .i64 12)) S fun r13 =>
  ifA r13
  (some (AV.int .i64 2, S))
  (pq (nilA a0 S) fun r14 =>
  pk (pfield r14 0 1) S fun r15 =>
  pk (ld1 S r15) S fun r16 =>
  pq (nilA a0 S) fun r17 =>
  pk (pfield r17 1 1) S fun r18 =>
  pk (ld1 S r18) S fun r19 =>
  pq (call0 run 121 [r16, r19] S) fun r20 =>
  pk (abin Tryz.prog .neq 2 r20 (AV.int .i64 0)) S fun r21 =>
  ifA r21
  (some (r20, S))
  (pq (call0 run 122 [a0] S) fun r22 =>
  pk (abin Tryz.prog .neq 2 r22 (AV.int .i64 0)) S fun r23 =>
  ifA r23
  (some (r22, S))
  ((aloop (s59_0 C run a0) C.N [AV.int .i64 0, AV.int .i64 0] S).bind fun
  | AOut.norm _ _ => (none)
  | AOut.exit x53 l53 S53 => (if x53 = 0 then (some (AV.int .i64 0, S53)) else (none))
  | AOut.ret l53 S53 => (some ((gd l53 0), S53))))))
theorem t59 (N d : Nat) (a0 : AV) (S : St) : R N (d + 1) 59 [a0] S = b59 (cfg N) (R N d) a0 S := by unfold R; kernel_rfl
def s24_0 (C : Cfg) (run : RunT) (l : List AV) (r1 : AV) (r10 : AV) (l28 : List AV) (S : St) : Option AOut :=
  ((pk (bin2 Tryz.prog .lss 3 ((gd l28 1)) ((gd l 1))) S fun r29 =>
  guardA r29 true
  (pq (nilA r10 S) fun r30 =>
  pk (pfield r30 0 1) S fun r31 =>
  pk (ld1 S r31) S fun r32 =>
  pk (abin Tryz.prog .leq 2 r32 (AV.int .i64 3)) S fun r33 =>
  some (AOut.norm [r33] S))
  (some (AOut.norm [AV.bool false] S))).bind fun
  | AOut.norm l34 S34 => (ifA ((gd l34 0))
  (some (AOut.norm [(gd l34 0)] S34))
  (some (AOut.exit 2 [(gd l34 0)] S34)))
  | AOut.exit x34 l34 S34 => (some (AOut.exit x34 [(gd l34 0)] S34))
  | AOut.ret l34 S34 => (some (AOut.ret [(gd l34 0)] S34))).bind fun
  | AOut.norm l35 S35 => ((pk (pfield r1 3 1) S35 fun r36 =>
  pk (ld1 S35 r36) S35 fun r37 =>
  pk (pindex 7 r37 ((gd l28 1)) S35) S35 fun r38 =>
  (pq (nilA r38 S35) fun r39 =>
  pk (pfield r39 0 1) S35 fun r40 =>
  pk (ld1 S35 r40) S35 fun r41 =>
  pq (nilA r10 S35) fun r42 =>
  pk (pfield r42 0 1) S35 fun r43 =>
  pk (ld1 S35 r43) S35 fun r44 =>
  pk (bin2 Tryz.prog .eql 2 r41 r44) S35 fun r45 =>
  guardA r45 true
  (pq (nilA r38 S35) fun r46 =>
  pk (pfield r46 2 1) S35 fun r47 =>
  pk (ld1 S35 r47) S35 fun r48 =>
  pq (nilA r10 S35) fun r49 =>
  pk (pfield r49 2 1) S35 fun r50 =>
  pk (ld1 S35 r50) S35 fun r51 =>
  pk (bin2 Tryz.prog .eql 2 r48 r51) S35 fun r52 =>
  guardA r52 true
  (pq (nilA r38 S35) fun r53 =>
  pk (pfield r53 1 1) S35 fun r54 =>
  pk (ld1 S35 r54) S35 fun r55 =>
  pq (nilA r10 S35) fun r56 =>
  pk (pfield r56 1 1) S35 fun r57 =>
  pk (ld1 S35 r57) S35 fun r58 =>
  pk (bin2 Tryz.prog .eql 2 r55 r58) S35 fun r59 =>
  guardA r59 true
  (pq (nilA r38 S35) fun r60 =>
  pk (pfield r60 3 1) S35 fun r61 =>
  pk (ld1 S35 r61) S35 fun r62 =>
  pq (nilA r10 S35) fun r63 =>
  pk (pfield r63 3 1) S35 fun r64 =>
  pk (ld1 S35 r64) S35 fun r65 =>
  pk (bin2 Tryz.prog .eql 2 r62 r65) S35 fun r66 =>
  some (AOut.norm [r66] S35))
  (some (AOut.norm [AV.bool false] S35)))
  (some (AOut.norm [AV.bool false] S35)))
  (some (AOut.norm [AV.bool false] S35))).bind fun
  | AOut.norm l67 S67 => (ifA ((gd l67 0))
  (some (AOut.ret [AV.bool false] S67))
  (some (AOut.norm [(gd l28 0)] S67)))
  | AOut.exit x67 l67 S67 => (if x67 = 3 then (some (AOut.norm [(gd l28 0)] S67)) else (some (AOut.exit x67 [(gd l28 0)] S67)))
  | AOut.ret l67 S67 => (some (AOut.ret [(gd l28 0)] S67))).bind fun
  | AOut.norm l68 S68 => (pk (abin Tryz.prog .add 3 ((gd l28 1)) (AV.int .i64 1)) S68 fun r69 =>
  some (AOut.norm [(gd l68 0), r69] S68))
  | AOut.exit x68 l68 S68 => (some (AOut.exit x68 [(gd l68 0), (gd l28 1)] S68))
  | AOut.ret l68 S68 => (some (AOut.ret [(gd l68 0), (gd l28 1)] S68)))
  | AOut.exit x35 l35 S35 => (some (AOut.exit x35 [(gd l28 0), (gd l28 1)] S35))
  | AOut.ret l35 S35 => (some (AOut.ret [(gd l28 0), (gd l28 1)] S35))
def s24_1 (C : Cfg) (run : RunT) (r1 : AV) (l : List AV) (S : St) : Option AOut :=
  pk (pfield r1 3 1) S fun r4 =>
  pk (ld1 S r4) S fun r5 =>
  pk (alen r5) S fun r6 =>
  pk (bin2 Tryz.prog .lss 3 ((gd l 1)) r6) S fun r7 =>
  ifA r7
  ((pk (pfield r1 3 1) S fun r8 =>
  pk (ld1 S r8) S fun r9 =>
  pk (pindex 7 r9 ((gd l 1)) S) S fun r10 =>
  pk (pfield r1 1 1) S fun r11 =>
  pk (ld1 S r11) S fun r12 =>
  pq (nilA r10 S) fun r13 =>
  pk (pfield r13 2 1) S fun r14 =>
  pk (ld1 S r14) S fun r15 =>
  pq (call0 run 80 [r12, r15] S) fun r16 =>
  ifA r16
  (some (AOut.norm [(gd l 0)] S))
  ((pq (nilA r10 S) fun r17 =>
  pk (pfield r17 0 1) S fun r18 =>
  pk (ld1 S r18) S fun r19 =>
  pk (abin Tryz.prog .eql 2 r19 (AV.int .i64 4)) S fun r20 =>
  guardA r20 true
  (pk (pfield r1 0 1) S fun r21 =>
  pk (ld1 S r21) S fun r22 =>
  pk (pfield r1 3 1) S fun r23 =>
  pk (ld1 S r23) S fun r24 =>
  pq (call0 run 81 [r22, r24, (gd l 1)] S) fun r25 =>
  pk (aun .not r25) S fun r26 =>
  ifA r26
  (some (AOut.ret [AV.bool false] S))
  (some (AOut.norm [(gd l 0)] S)))
  (some (AOut.norm [(gd l 0)] S))).bind fun
  | AOut.norm l27 S27 => ((aloop (s24_0 C run l r1 r10) C.N [(gd l27 0), AV.int .i64 0] S27).bind fun
  | AOut.norm _ _ => (none)
  | AOut.exit x70 l70 S70 => (if x70 = 2 then (some (AOut.norm [(gd l70 0)] S70)) else (if x70 = 1 then (some (AOut.norm [(gd l70 0)] S70)) else (some (AOut.exit x70 [(gd l70 0)] S70))))
  | AOut.ret l70 S70 => (some (AOut.ret [(gd l70 0)] S70)))
  | AOut.exit x27 l27 S27 => (if x27 = 1 then (some (AOut.norm [(gd l27 0)] S27)) else (some (AOut.exit x27 [(gd l27 0)] S27)))
  | AOut.ret l27 S27 => (some (AOut.ret [(gd l27 0)] S27)))).bind fun
  | AOut.norm l71 S71 => (pk (abin Tryz.prog .add 3 ((gd l 1)) (AV.int .i64 1)) S71 fun r72 =>
  some (AOut.norm [(gd l71 0), r72] S71))
  | AOut.exit x71 l71 S71 => (some (AOut.exit x71 [(gd l71 0), (gd l 1)] S71))
  | AOut.ret l71 S71 => (some (AOut.ret [(gd l71 0), (gd l 1)] S71)))
  (some (AOut.exit 0 [(gd l 0), (gd l 1)] S))
def b24 (C : Cfg) (run : RunT) (a0 : AV) (S : St) : OA :=
  pe (boxA a0 S) fun r1 S1 =>
  pq (call0 run 59 [r1] S1) fun r2 =>
  pk (abin Tryz.prog .neq 2 r2 (AV.int .i64 0)) S1 fun r3 =>
  ifA r3
  (some (AV.bool false, S1))
  ((aloop (s24_1 C run r1) C.N [AV.bool false, AV.int .i64 0] S1).bind fun
  | AOut.norm _ _ => (none)
  | AOut.exit x73 l73 S73 => (if x73 = 0 then (some (AV.bool true, S73)) else (none))
  | AOut.ret l73 S73 => (some ((gd l73 0), S73)))
theorem t24 (N d : Nat) (a0 : AV) (S : St) : R N (d + 1) 24 [a0] S = b24 (cfg N) (R N d) a0 S := by unfold R; kernel_rfl
def b132 (C : Cfg) (run : RunT) (a0 a1 a2 : AV) (S : St) : OA :=
  pk (bin2 Tryz.prog .leq 2 a1 a0) S fun r1 =>
  guardA r1 true
  (pk (bin2 Tryz.prog .leq 2 a0 a2) S fun r2 =>
  some (r2, S))
  (some (AV.bool false, S))
theorem t132 (N d : Nat) (a0 a1 a2 : AV) (S : St) : R N (d + 1) 132 [a0, a1, a2] S = b132 (cfg N) (R N d) a0 a1 a2 S := by unfold R; kernel_rfl
def b125 (C : Cfg) (run : RunT) (a0 : AV) (S : St) : OA :=
  pq (call0 run 132 [a0, AV.int .i64 1, AV.int .i64 2] S) fun r1 =>
  some (r1, S)
theorem t125 (N d : Nat) (a0 : AV) (S : St) : R N (d + 1) 125 [a0] S = b125 (cfg N) (R N d) a0 S := by unfold R; kernel_rfl
def b84 (C : Cfg) (run : RunT) (a0 : AV) (S : St) : OA :=
  pq (call0 run 132 [a0, AV.int .i64 1, AV.int .i64 3] S) fun r1 =>
  some (r1, S)
theorem t84 (N d : Nat) (a0 : AV) (S : St) : R N (d + 1) 84 [a0] S = b84 (cfg N) (R N d) a0 S := by unfold R; kernel_rfl
def b130 (C : Cfg) (run : RunT) (a0 : AV) (S : St) : OA :=
  pk (abin Tryz.prog .mul 2 (AV.int .i64 3) a0) S fun r1 =>
  pk (abin Tryz.prog .add 2 r1 (AV.int .i64 1)) S fun r2 =>
  some (r2, S)
theorem t130 (N d : Nat) (a0 : AV) (S : St) : R N (d + 1) 130 [a0] S = b130 (cfg N) (R N d) a0 S := by unfold R; kernel_rfl
def b129 (C : Cfg) (run : RunT) (a0 a1 : AV) (S : St) : OA :=
  pq (call0 run 130 [a0] S) fun r1 =>
  pq (call0 run 132 [a1, AV.int .i64 1, r1] S) fun r2 =>
  some (r2, S)
theorem t129 (N d : Nat) (a0 a1 : AV) (S : St) : R N (d + 1) 129 [a0, a1] S = b129 (cfg N) (R N d) a0 a1 S := by unfold R; kernel_rfl
def b131 (C : Cfg) (run : RunT) (a0 : AV) (S : St) : OA :=
  pq (call0 run 132 [a0, AV.int .i64 0, AV.int .i64 20] S) fun r1 =>
  some (r1, S)
theorem t131 (N d : Nat) (a0 : AV) (S : St) : R N (d + 1) 131 [a0] S = b131 (cfg N) (R N d) a0 S := by unfold R; kernel_rfl
def s211_0 (C : Cfg) (run : RunT) (a0 : AV) (a1 : AV) (r1 : AV) (l : List AV) (S : St) : Option AOut :=
  pk (bin2 Tryz.prog .lss 3 ((gd l 1)) r1) S fun r2 =>
  ifA r2
  (pk (pindex 3 a0 ((gd l 1)) S) S fun r3 =>
  pk (ldA S r3 3) S fun r4 =>
  pe (callV C run 211 a1 [r4] S) fun r5 S5 =>
  ifA r5
  (some (AOut.ret [(gd l 1), (gd l 1)] S5))
  (pk (abin Tryz.prog .add 3 ((gd l 1)) (AV.int .i64 1)) S5 fun r6 =>
  some (AOut.norm [(gd l 0), r6] S5)))
  (some (AOut.exit 0 [(gd l 0), (gd l 1)] S))
def b211 (C : Cfg) (run : RunT) (a0 a1 : AV) (S : St) : OA :=
  pk (alen a0) S fun r1 =>
  (aloop (s211_0 C run a0 a1 r1) C.N [AV.int .i64 0, AV.int .i64 0] S).bind fun
  | AOut.norm _ _ => (none)
  | AOut.exit x7 l7 S7 => (if x7 = 0 then (some (AV.int .i64 (-1), S7)) else (none))
  | AOut.ret l7 S7 => (some ((gd l7 0), S7))
theorem t211 (N d : Nat) (a0 a1 : AV) (S : St) : R N (d + 1) 211 [a0, a1] S = b211 (cfg N) (R N d) a0 a1 S := by unfold R; kernel_rfl
def b151 (C : Cfg) (run : RunT) (a0 a1 : AV) (S : St) : OA :=
  pq (call0 run 211 [a0, a1] S) fun r1 =>
  pk (abin Tryz.prog .geq 3 r1 (AV.int .i64 0)) S fun r2 =>
  some (r2, S)
theorem t151 (N d : Nat) (a0 a1 : AV) (S : St) : R N (d + 1) 151 [a0, a1] S = b151 (cfg N) (R N d) a0 a1 S := by unfold R; kernel_rfl
def b192 (C : Cfg) (run : RunT) (a0 : AV) (S : St) : OA :=
  pq (call0 run 132 [a0, AV.int .i64 1, AV.int .i64 30] S) fun r1 =>
  some (r1, S)
theorem t192 (N d : Nat) (a0 : AV) (S : St) : R N (d + 1) 192 [a0] S = b192 (cfg N) (R N d) a0 S := by unfold R; kernel_rfl
def b193 (C : Cfg) (run : RunT) (a0 : AV) (S : St) : OA :=
  pq (call0 run 132 [a0, AV.int .i64 0, AV.int .i64 12] S) fun r1 =>
  some (r1, S)
theorem t193 (N d : Nat) (a0 : AV) (S : St) : R N (d + 1) 193 [a0] S = b193 (cfg N) (R N d) a0 S := by unfold R; kernel_rfl
def b194 (C : Cfg) (run : RunT) (a0 a1 : AV) (S : St) : OA :=
  pe (boxA a0 S) fun r1 S1 =>
  (pk (pfield r1 0 1) S1 fun r2 =>
  pk (ld1 S1 r2) S1 fun r3 =>
  pq (call0 run 192 [r3] S1) fun r4 =>
  pk (aun .not r4) S1 fun r5 =>
  guardA r5 false
  (pk (pfield r1 1 1) S1 fun r6 =>
  pk (ld1 S1 r6) S1 fun r7 =>
  pk (pfield a1 1 1) S1 fun r8 =>
  pk (ld1 S1 r8) S1 fun r9 =>
  pk (abin Tryz.prog .sub 2 r9 (AV.int .i64 1)) S1 fun r10 =>
  pq (call0 run 132 [r7, AV.int .i64 0, r10] S1) fun r11 =>
  pk (aun .not r11) S1 fun r12 =>
  guardA r12 false
  (pk (pfield r1 2 1) S1 fun r13 =>
  pk (ld1 S1 r13) S1 fun r14 =>
  pq (call0 run 193 [r14] S1) fun r15 =>
  pk (aun .not r15) S1 fun r16 =>
  some (AOut.norm [r16] S1))
  (some (AOut.norm [AV.bool true] S1)))
  (some (AOut.norm [AV.bool true] S1))).bind fun
  | AOut.norm l17 S17 => (some ((gd l17 0), S17))
  | AOut.exit x17 l17 S17 => (none)
  | AOut.ret l17 S17 => (some ((gd l17 0), S17))
theorem t194 (N d : Nat) (a0 a1 : AV) (S : St) : R N (d + 1) 194 [a0, a1] S = b194 (cfg N) (R N d) a0 a1 S := by unfold R; kernel_rfl
def s232_0 (C : Cfg) (run : RunT) (a0 : AV) (a1 : AV) (r1 : AV) (l : List AV) (S : St) : Option AOut :=
  pk (bin2 Tryz.prog .lss 3 ((gd l 1)) r1) S fun r2 =>
  ifA r2
  (pk (pindex 1 a0 ((gd l 1)) S) S fun r3 =>
  pk (ld1 S r3) S fun r4 =>
  pe (callV C run 232 a1 [r4] S) fun r5 S5 =>
  ifA r5
  (some (AOut.ret [(gd l 1), (gd l 1)] S5))
  (pk (abin Tryz.prog .add 3 ((gd l 1)) (AV.int .i64 1)) S5 fun r6 =>
  some (AOut.norm [(gd l 0), r6] S5)))
  (some (AOut.exit 0 [(gd l 0), (gd l 1)] S))
def b232 (C : Cfg) (run : RunT) (a0 a1 : AV) (S : St) : OA :=
  pk (alen a0) S fun r1 =>
  (aloop (s232_0 C run a0 a1 r1) C.N [AV.int .i64 0, AV.int .i64 0] S).bind fun
  | AOut.norm _ _ => (none)
  | AOut.exit x7 l7 S7 => (if x7 = 0 then (some (AV.int .i64 (-1), S7)) else (none))
  | AOut.ret l7 S7 => (some ((gd l7 0), S7))
theorem t232 (N d : Nat) (a0 a1 : AV) (S : St) : R N (d + 1) 232 [a0, a1] S = b232 (cfg N) (R N d) a0 a1 S := by unfold R; kernel_rfl
def b195 (C : Cfg) (run : RunT) (a0 a1 : AV) (S : St) : OA :=
  pq (call0 run 232 [a0, a1] S) fun r1 =>
  pk (abin Tryz.prog .geq 3 r1 (AV.int .i64 0)) S fun r2 =>
  some (r2, S)
theorem t195 (N d : Nat) (a0 a1 : AV) (S : St) : R N (d + 1) 195 [a0, a1] S = b195 (cfg N) (R N d) a0 a1 S := by unfold R; kernel_rfl
def b196 (C : Cfg) (run : RunT) (a0 : AV) (S : St) : OA :=
  pq (call0 run 132 [a0, AV.int .i64 0, AV.int .i64 239] S) fun r1 =>
  pk (aun .not r1) S fun r2 =>
  some (r2, S)
theorem t196 (N d : Nat) (a0 : AV) (S : St) : R N (d + 1) 196 [a0] S = b196 (cfg N) (R N d) a0 S := by unfold R; kernel_rfl
def s126_0 (C : Cfg) (run : RunT) (r1 : AV) (r87 : AV) (r88 : AV) (l : List AV) (S : St) : Option AOut :=
  pk (bin2 Tryz.prog .lss 3 ((gd l 1)) r88) S fun r89 =>
  ifA r89
  ((pk (pindex 3 r87 ((gd l 1)) S) S fun r90 =>
  pk (ldA S r90 3) S fun r91 =>
  pe (some (newBox S [AV.int .i64 0, AV.int .i64 0, AV.int .i64 0])) fun r92 S92 =>
  pe (storeA 3 r92 r91 S92) fun r93 S93 =>
  pk (abin Tryz.prog .gtr 3 ((gd l 1)) (AV.int .i64 0)) S93 fun r94 =>
  guardA r94 true
  (pk (pfield r92 0 1) S93 fun r95 =>
  pk (ld1 S93 r95) S93 fun r96 =>
  pk (pfield r1 5 1) S93 fun r97 =>
  pk (ld1 S93 r97) S93 fun r98 =>
  pk (abin Tryz.prog .sub 3 ((gd l 1)) (AV.int .i64 1)) S93 fun r99 =>
  pk (pindex 3 r98 r99 S93) S93 fun r100 =>
  pk (pfield r100 0 1) S93 fun r101 =>
  pk (ld1 S93 r101) S93 fun r102 =>
  pk (bin2 Tryz.prog .leq 2 r96 r102) S93 fun r103 =>
  ifA r103
  (some (AOut.ret [AV.int .i64 1] S93))
  (some (AOut.norm [(gd l 0)] S93)))
  (some (AOut.norm [(gd l 0)] S93))).bind fun
  | AOut.norm l104 S104 => (pk (abin Tryz.prog .add 3 ((gd l 1)) (AV.int .i64 1)) S104 fun r105 =>
  some (AOut.norm [(gd l104 0), r105] S104))
  | AOut.exit x104 l104 S104 => (some (AOut.exit x104 [(gd l104 0), (gd l 1)] S104))
  | AOut.ret l104 S104 => (some (AOut.ret [(gd l104 0), (gd l 1)] S104)))
  (some (AOut.exit 1 [(gd l 0), (gd l 1)] S))
def s126_1 (C : Cfg) (run : RunT) (r1 : AV) (r108 : AV) (r109 : AV) (l : List AV) (S : St) : Option AOut :=
  pk (bin2 Tryz.prog .lss 3 ((gd l 1)) r109) S fun r110 =>
  ifA r110
  ((pk (pindex 1 r108 ((gd l 1)) S) S fun r111 =>
  pk (ld1 S r111) S fun r112 =>
  pk (abin Tryz.prog .gtr 3 ((gd l 1)) (AV.int .i64 0)) S fun r113 =>
  guardA r113 true
  (pk (pfield r1 6 1) S fun r114 =>
  pk (ld1 S r114) S fun r115 =>
  pk (abin Tryz.prog .sub 3 ((gd l 1)) (AV.int .i64 1)) S fun r116 =>
  pk (pindex 1 r115 r116 S) S fun r117 =>
  pk (ld1 S r117) S fun r118 =>
  pk (bin2 Tryz.prog .leq 2 r112 r118) S fun r119 =>
  ifA r119
  (some (AOut.ret [AV.int .i64 1] S))
  (some (AOut.norm [(gd l 0)] S)))
  (some (AOut.norm [(gd l 0)] S))).bind fun
  | AOut.norm l120 S120 => (pk (abin Tryz.prog .add 3 ((gd l 1)) (AV.int .i64 1)) S120 fun r121 =>
  some (AOut.norm [(gd l120 0), r121] S120))
  | AOut.exit x120 l120 S120 => (some (AOut.exit x120 [(gd l120 0), (gd l 1)] S120))
  | AOut.ret l120 S120 => (some (AOut.ret [(gd l120 0), (gd l 1)] S120)))
  (some (AOut.exit 3 [(gd l 0), (gd l 1)] S))
def b126 (C : Cfg) (run : RunT) (a0 a1 : AV) (S : St) : OA :=
  pe (boxA a1 S) fun r1 S1 =>
  pk (pfield r1 0 1) S1 fun r2 =>
  pk (ld1 S1 r2) S1 fun r3 =>
  pq (call0 run 84 [r3] S1) fun r4 =>
  ((pk (pfield r1 0 1) S1 fun r5 =>
  pk (ld1 S1 r5) S1 fun r6 =>
  pq (call0 run 132 [r6, AV.int .i64 1, AV.int .i64 5] S1) fun r7 =>
  pk (aun .not r7) S1 fun r8 =>
  guardA r8 false
  (pk (aun .not r4) S1 fun r9 =>
  guardA r9 true
  (pk (pfield r1 3 1) S1 fun r10 =>
  pk (ld1 S1 r10) S1 fun r11 =>
  pk (abin Tryz.prog .neq 2 r11 (AV.int .i64 0)) S1 fun r12 =>
  guardA r12 false
  (pk (pfield r1 4 1) S1 fun r13 =>
  pk (ld1 S1 r13) S1 fun r14 =>
  pk (abin Tryz.prog .neq 2 r14 (AV.int .i64 0)) S1 fun r15 =>
  guardA r15 false
  (pk (pfield r1 0 1) S1 fun r16 =>
  pk (ld1 S1 r16) S1 fun r17 =>
  pk (abin Tryz.prog .neq 2 r17 (AV.int .i64 4)) S1 fun r18 =>
  guardA r18 true
  (pk (pfield r1 5 1) S1 fun r19 =>
  pk (ld1 S1 r19) S1 fun r20 =>
  pk (alen r20) S1 fun r21 =>
  pk (abin Tryz.prog .gtr 3 r21 (AV.int .i64 0)) S1 fun r22 =>
  guardA r22 false
  (pk (pfield r1 0 1) S1 fun r23 =>
  pk (ld1 S1 r23) S1 fun r24 =>
  pk (abin Tryz.prog .neq 2 r24 (AV.int .i64 5)) S1 fun r25 =>
  guardA r25 true
  (pk (pfield r1 6 1) S1 fun r26 =>
  pk (ld1 S1 r26) S1 fun r27 =>
  pk (alen r27) S1 fun r28 =>
  pk (abin Tryz.prog .gtr 3 r28 (AV.int .i64 0)) S1 fun r29 =>
  some (AOut.norm [r29] S1))
  (some (AOut.norm [AV.bool false] S1)))
  (some (AOut.norm [AV.bool true] S1)))
  (pk (pfield r1 0 1) S1 fun r30 =>
  pk (ld1 S1 r30) S1 fun r31 =>
  pk (abin Tryz.prog .neq 2 r31 (AV.int .i64 5)) S1 fun r32 =>
  guardA r32 true
  (pk (pfield r1 6 1) S1 fun r33 =>
  pk (ld1 S1 r33) S1 fun r34 =>
  pk (alen r34) S1 fun r35 =>
  pk (abin Tryz.prog .gtr 3 r35 (AV.int .i64 0)) S1 fun r36 =>
  some (AOut.norm [r36] S1))
  (some (AOut.norm [AV.bool false] S1))))
  (some (AOut.norm [AV.bool true] S1)))
  (some (AOut.norm [AV.bool true] S1)))
  (pk (pfield r1 0 1) S1 fun r37 =>
  pk (ld1 S1 r37) S1 fun r38 =>
  pk (abin Tryz.prog .neq 2 r38 (AV.int .i64 4)) S1 fun r39 =>
  guardA r39 true
  (pk (pfield r1 5 1) S1 fun r40 =>
  pk (ld1 S1 r40) S1 fun r41 =>
  pk (alen r41) S1 fun r42 =>
  pk (abin Tryz.prog .gtr 3 r42 (AV.int .i64 0)) S1 fun r43 =>
  guardA r43 false
  (pk (pfield r1 0 1) S1 fun r44 =>
  pk (ld1 S1 r44) S1 fun r45 =>
  pk (abin Tryz.prog .neq 2 r45 (AV.int .i64 5)) S1 fun r46 =>
  guardA r46 true
  (pk (pfield r1 6 1) S1 fun r47 =>
  pk (ld1 S1 r47) S1 fun r48 =>
  pk (alen r48) S1 fun r49 =>
  pk (abin Tryz.prog .gtr 3 r49 (AV.int .i64 0)) S1 fun r50 =>
  some (AOut.norm [r50] S1))
  (some (AOut.norm [AV.bool false] S1)))
  (some (AOut.norm [AV.bool true] S1)))
  (pk (pfield r1 0 1) S1 fun r51 =>
  pk (ld1 S1 r51) S1 fun r52 =>
  pk (abin Tryz.prog .neq 2 r52 (AV.int .i64 5)) S1 fun r53 =>
  guardA r53 true
  (pk (pfield r1 6 1) S1 fun r54 =>
  pk (ld1 S1 r54) S1 fun r55 =>
  pk (alen r55) S1 fun r56 =>
  pk (abin Tryz.prog .gtr 3 r56 (AV.int .i64 0)) S1 fun r57 =>
  some (AOut.norm [r57] S1))
  (some (AOut.norm [AV.bool false] S1)))))
  (some (AOut.norm [AV.bool true] S1))).bind fun
  | AOut.norm l58 S58 => (ifA ((gd l58 0))
  (some (AOut.ret [AV.int .i64 1] S58))
  ((pk (pfield r1 1 1) S58 fun r59 =>
  pk (ld1 S58 r59) S58 fun r60 =>
  pq (call0 run 131 [r60] S58) fun r61 =>
  pk (aun .not r61) S58 fun r62 =>
  guardA r62 false
  (pk (pfield r1 2 1) S58 fun r63 =>
  pk (ld1 S58 r63) S58 fun r64 =>
  pq (call0 run 129 [a0, r64] S58) fun r65 =>
  pk (aun .not r65) S58 fun r66 =>
  guardA r66 false
  (guardA r4 true
  (pk (pfield r1 3 1) S58 fun r67 =>
  pk (ld1 S58 r67) S58 fun r68 =>
  pq (call0 run 192 [r68] S58) fun r69 =>
  pk (aun .not r69) S58 fun r70 =>
  guardA r70 false
  (pk (pfield r1 4 1) S58 fun r71 =>
  pk (ld1 S58 r71) S58 fun r72 =>
  pq (call0 run 193 [r72] S58) fun r73 =>
  pk (aun .not r73) S58 fun r74 =>
  some (AOut.norm [r74] S58))
  (some (AOut.norm [AV.bool true] S58)))
  (some (AOut.norm [AV.bool false] S58)))
  (some (AOut.norm [AV.bool true] S58)))
  (some (AOut.norm [AV.bool true] S58))).bind fun
  | AOut.norm l75 S75 => (ifA ((gd l75 0))
  (some (AOut.ret [AV.int .i64 3] S75))
  (pk (pfield r1 5 1) S75 fun r76 =>
  pk (ld1 S75 r76) S75 fun r77 =>
  pk (alen r77) S75 fun r78 =>
  pk (abin Tryz.prog .gtr 3 r78 (AV.int .i64 30)) S75 fun r79 =>
  guardA r79 false
  (pk (pfield r1 6 1) S75 fun r80 =>
  pk (ld1 S75 r80) S75 fun r81 =>
  pk (alen r81) S75 fun r82 =>
  pq (call0 run 130 [a0] S75) fun r83 =>
  pk (bin2 Tryz.prog .gtr 2 r82 r83) S75 fun r84 =>
  ifA r84
  (some (AOut.ret [AV.int .i64 2] S75))
  (some (AOut.norm [AV.int .i64 0] S75)))
  (some (AOut.ret [AV.int .i64 2] S75))))
  | AOut.exit x75 l75 S75 => (if x75 = 0 then (some (AOut.norm [AV.int .i64 0] S75)) else (some (AOut.exit x75 [AV.int .i64 0] S75)))
  | AOut.ret l75 S75 => (some (AOut.ret [AV.int .i64 0] S75))))
  | AOut.exit x58 l58 S58 => (if x58 = 0 then (some (AOut.norm [AV.int .i64 0] S58)) else (some (AOut.exit x58 [AV.int .i64 0] S58)))
  | AOut.ret l58 S58 => (some (AOut.ret [AV.int .i64 0] S58))).bind fun
  | AOut.norm l85 S85 => (pk (pfield r1 5 1) S85 fun r86 =>
  pk (ld1 S85 r86) S85 fun r87 =>
  pk (alen r87) S85 fun r88 =>
  (aloop (s126_0 C run r1 r87 r88) C.N [(gd l85 0), AV.int .i64 0] S85).bind fun
  | AOut.norm _ _ => (none)
  | AOut.exit x106 l106 S106 => (if x106 = 1 then (pk (pfield r1 6 1) S106 fun r107 =>
  pk (ld1 S106 r107) S106 fun r108 =>
  pk (alen r108) S106 fun r109 =>
  (aloop (s126_1 C run r1 r108 r109) C.N [(gd l106 0), AV.int .i64 0] S106).bind fun
  | AOut.norm _ _ => (none)
  | AOut.exit x122 l122 S122 => (if x122 = 3 then (pk (pfield r1 5 1) S122 fun r123 =>
  pk (ld1 S122 r123) S122 fun r124 =>
  pq (call0 run 151 [r124, AV.fn 194 [r1]] S122) fun r125 =>
  ifA r125
  (some (AV.int .i64 3, S122))
  (pk (pfield r1 6 1) S122 fun r126 =>
  pk (ld1 S122 r126) S122 fun r127 =>
  pq (call0 run 195 [r127, AV.fn 196 []] S122) fun r128 =>
  ifA r128
  (some (AV.int .i64 3, S122))
  (some (AV.int .i64 0, S122)))) else (none))
  | AOut.ret l122 S122 => (some ((gd l122 0), S122))) else (none))
  | AOut.ret l106 S106 => (some ((gd l106 0), S106)))
  | AOut.exit x85 l85 S85 => (none)
  | AOut.ret l85 S85 => (some ((gd l85 0), S85))
theorem t126 (N d : Nat) (a0 a1 : AV) (S : St) : R N (d + 1) 126 [a0, a1] S = b126 (cfg N) (R N d) a0 a1 S := by unfold R; kernel_rfl
def b197 (C : Cfg) (run : RunT) (a0 a1 : AV) (S : St) : OA :=
  pk (ld1 S a1) S fun r1 =>
  pk (bin2 Tryz.prog .geq 2 a0 r1) S fun r2 =>
  some (r2, S)
theorem t197 (N d : Nat) (a0 a1 : AV) (S : St) : R N (d + 1) 197 [a0, a1] S = b197 (cfg N) (R N d) a0 a1 S := by unfold R; kernel_rfl
def b127 (C : Cfg) (run : RunT) (a0 a1 : AV) (S : St) : OA :=
  pe (boxA a0 S) fun r1 S1 =>
  pe (boxA a1 S1) fun r2 S2 =>
  pk (pfield r1 6 1) S2 fun r3 =>
  pk (ld1 S2 r3) S2 fun r4 =>
  pq (call0 run 195 [r4, AV.fn 197 [r2]] S2) fun r5 =>
  pk (aun .not r5) S2 fun r6 =>
  some (r6, S2)
theorem t127 (N d : Nat) (a0 a1 : AV) (S : St) : R N (d + 1) 127 [a0, a1] S = b127 (cfg N) (R N d) a0 a1 S := by unfold R; kernel_rfl
def s154_0 (C : Cfg) (run : RunT) (a0 : AV) (a1 : AV) (r1 : AV) (l : List AV) (S : St) : Option AOut :=
  pk (bin2 Tryz.prog .lss 3 ((gd l 1)) r1) S fun r2 =>
  ifA r2
  (pk (pindex 7 a0 ((gd l 1)) S) S fun r3 =>
  pk (ldA S r3 7) S fun r4 =>
  pe (callV C run 154 a1 [r4] S) fun r5 S5 =>
  ifA r5
  (some (AOut.ret [(gd l 1), (gd l 1)] S5))
  (pk (abin Tryz.prog .add 3 ((gd l 1)) (AV.int .i64 1)) S5 fun r6 =>
  some (AOut.norm [(gd l 0), r6] S5)))
  (some (AOut.exit 0 [(gd l 0), (gd l 1)] S))
def b154 (C : Cfg) (run : RunT) (a0 a1 : AV) (S : St) : OA :=
  pk (alen a0) S fun r1 =>
  (aloop (s154_0 C run a0 a1 r1) C.N [AV.int .i64 0, AV.int .i64 0] S).bind fun
  | AOut.norm _ _ => (none)
  | AOut.exit x7 l7 S7 => (if x7 = 0 then (some (AV.int .i64 (-1), S7)) else (none))
  | AOut.ret l7 S7 => (some ((gd l7 0), S7))
theorem t154 (N d : Nat) (a0 a1 : AV) (S : St) : R N (d + 1) 154 [a0, a1] S = b154 (cfg N) (R N d) a0 a1 S := by unfold R; kernel_rfl
def s66_0 (C : Cfg) (run : RunT) (a0 : AV) (a1 : AV) (r4 : AV) (l : List AV) (S : St) : Option AOut :=
  pk (bin2 Tryz.prog .lss 3 ((gd l 1)) r4) S fun r5 =>
  ifA r5
  (pk (pindex 1 a0 ((gd l 1)) S) S fun r6 =>
  pk (ld1 S r6) S fun r7 =>
  pk (pindex 1 a1 ((gd l 1)) S) S fun r8 =>
  pk (ld1 S r8) S fun r9 =>
  pk (bin2 Tryz.prog .neq 2 r7 r9) S fun r10 =>
  ifA r10
  (some (AOut.ret [AV.bool false, (gd l 1)] S))
  (pk (abin Tryz.prog .add 3 ((gd l 1)) (AV.int .i64 1)) S fun r11 =>
  some (AOut.norm [(gd l 0), r11] S)))
  (some (AOut.exit 0 [(gd l 0), (gd l 1)] S))
def b66 (C : Cfg) (run : RunT) (a0 a1 : AV) (S : St) : OA :=
  pk (alen a0) S fun r1 =>
  pk (alen a1) S fun r2 =>
  pk (bin2 Tryz.prog .neq 3 r1 r2) S fun r3 =>
  ifA r3
  (some (AV.bool false, S))
  (pk (alen a0) S fun r4 =>
  (aloop (s66_0 C run a0 a1 r4) C.N [AV.bool false, AV.int .i64 0] S).bind fun
  | AOut.norm _ _ => (none)
  | AOut.exit x12 l12 S12 => (if x12 = 0 then (some (AV.bool true, S12)) else (none))
  | AOut.ret l12 S12 => (some ((gd l12 0), S12)))
theorem t66 (N d : Nat) (a0 a1 : AV) (S : St) : R N (d + 1) 66 [a0, a1] S = b66 (cfg N) (R N d) a0 a1 S := by unfold R; kernel_rfl
def s233_0 (C : Cfg) (run : RunT) (a0 : AV) (a1 : AV) (r4 : AV) (l : List AV) (S : St) : Option AOut :=
  pk (bin2 Tryz.prog .lss 3 ((gd l 1)) r4) S fun r5 =>
  ifA r5
  (pk (pindex 3 a0 ((gd l 1)) S) S fun r6 =>
  pk (ldA S r6 3) S fun r7 =>
  pk (pindex 3 a1 ((gd l 1)) S) S fun r8 =>
  pk (ldA S r8 3) S fun r9 =>
  pk (bin2 Tryz.prog .neq 161 r7 r9) S fun r10 =>
  ifA r10
  (some (AOut.ret [AV.bool false, (gd l 1)] S))
  (pk (abin Tryz.prog .add 3 ((gd l 1)) (AV.int .i64 1)) S fun r11 =>
  some (AOut.norm [(gd l 0), r11] S)))
  (some (AOut.exit 0 [(gd l 0), (gd l 1)] S))
def b233 (C : Cfg) (run : RunT) (a0 a1 : AV) (S : St) : OA :=
  pk (alen a0) S fun r1 =>
  pk (alen a1) S fun r2 =>
  pk (bin2 Tryz.prog .neq 3 r1 r2) S fun r3 =>
  ifA r3
  (some (AV.bool false, S))
  (pk (alen a0) S fun r4 =>
  (aloop (s233_0 C run a0 a1 r4) C.N [AV.bool false, AV.int .i64 0] S).bind fun
  | AOut.norm _ _ => (none)
  | AOut.exit x12 l12 S12 => (if x12 = 0 then (some (AV.bool true, S12)) else (none))
  | AOut.ret l12 S12 => (some ((gd l12 0), S12)))
theorem t233 (N d : Nat) (a0 a1 : AV) (S : St) : R N (d + 1) 233 [a0, a1] S = b233 (cfg N) (R N d) a0 a1 S := by unfold R; kernel_rfl
def b199 (C : Cfg) (run : RunT) (a0 a1 : AV) (S : St) : OA :=
  pe (boxA a0 S) fun r1 S1 =>
  pe (boxA a1 S1) fun r2 S2 =>
  (pk (pfield r1 0 1) S2 fun r3 =>
  pk (ld1 S2 r3) S2 fun r4 =>
  pk (pfield r2 0 1) S2 fun r5 =>
  pk (ld1 S2 r5) S2 fun r6 =>
  pk (bin2 Tryz.prog .eql 2 r4 r6) S2 fun r7 =>
  guardA r7 true
  (pk (pfield r1 1 1) S2 fun r8 =>
  pk (ld1 S2 r8) S2 fun r9 =>
  pk (pfield r2 1 1) S2 fun r10 =>
  pk (ld1 S2 r10) S2 fun r11 =>
  pk (bin2 Tryz.prog .eql 2 r9 r11) S2 fun r12 =>
  guardA r12 true
  (pk (pfield r1 2 1) S2 fun r13 =>
  pk (ld1 S2 r13) S2 fun r14 =>
  pk (pfield r2 2 1) S2 fun r15 =>
  pk (ld1 S2 r15) S2 fun r16 =>
  pk (bin2 Tryz.prog .eql 2 r14 r16) S2 fun r17 =>
  guardA r17 true
  (pk (pfield r1 3 1) S2 fun r18 =>
  pk (ld1 S2 r18) S2 fun r19 =>
  pk (pfield r2 3 1) S2 fun r20 =>
  pk (ld1 S2 r20) S2 fun r21 =>
  pk (bin2 Tryz.prog .eql 2 r19 r21) S2 fun r22 =>
  guardA r22 true
  (pk (pfield r1 4 1) S2 fun r23 =>
  pk (ld1 S2 r23) S2 fun r24 =>
  pk (pfield r2 4 1) S2 fun r25 =>
  pk (ld1 S2 r25) S2 fun r26 =>
  pk (bin2 Tryz.prog .eql 2 r24 r26) S2 fun r27 =>
  guardA r27 true
  (pk (pfield r1 5 1) S2 fun r28 =>
  pk (ld1 S2 r28) S2 fun r29 =>
  pk (pfield r2 5 1) S2 fun r30 =>
  pk (ld1 S2 r30) S2 fun r31 =>
  pq (call0 run 233 [r29, r31] S2) fun r32 =>
  guardA r32 true
  (pk (pfield r1 6 1) S2 fun r33 =>
  pk (ld1 S2 r33) S2 fun r34 =>
  pk (pfield r2 6 1) S2 fun r35 =>
  pk (ld1 S2 r35) S2 fun r36 =>
  pq (call0 run 66 [r34, r36] S2) fun r37 =>
  some (AOut.norm [r37] S2))
  (some (AOut.norm [AV.bool false] S2)))
  (some (AOut.norm [AV.bool false] S2)))
  (some (AOut.norm [AV.bool false] S2)))
  (some (AOut.norm [AV.bool false] S2)))
  (some (AOut.norm [AV.bool false] S2)))
  (some (AOut.norm [AV.bool false] S2))).bind fun
  | AOut.norm l38 S38 => (some ((gd l38 0), S38))
  | AOut.exit x38 l38 S38 => (none)
  | AOut.ret l38 S38 => (some ((gd l38 0), S38))
theorem t199 (N d : Nat) (a0 a1 : AV) (S : St) : R N (d + 1) 199 [a0, a1] S = b199 (cfg N) (R N d) a0 a1 S := by unfold R; kernel_rfl
def b198 (C : Cfg) (run : RunT) (a0 a1 : AV) (S : St) : OA :=
  pe (boxA a0 S) fun r1 S1 =>
  pk (ldA S1 r1 7) S1 fun r2 =>
  pk (ldA S1 a1 7) S1 fun r3 =>
  pq (call0 run 199 [r2, r3] S1) fun r4 =>
  some (r4, S1)
theorem t198 (N d : Nat) (a0 a1 : AV) (S : St) : R N (d + 1) 198 [a0, a1] S = b198 (cfg N) (R N d) a0 a1 S := by unfold R; kernel_rfl
def b128 (C : Cfg) (run : RunT) (a0 a1 : AV) (S : St) : OA :=
  pe (boxA a1 S) fun r1 S1 =>
  pq (call0 run 154 [a0, AV.fn 198 [r1]] S1) fun r2 =>
  some (r2, S1)
theorem t128 (N d : Nat) (a0 a1 : AV) (S : St) : R N (d + 1) 128 [a0, a1] S = b128 (cfg N) (R N d) a0 a1 S := by unfold R; kernel_rfl
def s64_0 (C : Cfg) (run : RunT) (a0 : AV) (a1 : AV) (r5 : AV) (l : List AV) (S : St) : Option AOut :=
  pk (bin2 Tryz.prog .lss 3 ((gd l 1)) r5) S fun r6 =>
  ifA r6
  (pk (pindex 7 a1 ((gd l 1)) S) S fun r7 =>
  pk (ldA S r7 7) S fun r8 =>
  pe (some (newBox S [AV.int .i64 0, AV.int .i64 0, AV.int .i64 0, AV.int .i64 0, AV.int .i64 0, AV.rsl false true [], AV.rsl false true []])) fun r9 S9 =>
  pe (storeA 7 r9 r8 S9) fun r10 S10 =>
  pk (ldA S10 r9 7) S10 fun r11 =>
  pq (call0 run 126 [a0, r11] S10) fun r12 =>
  pk (abin Tryz.prog .neq 2 r12 (AV.int .i64 0)) S10 fun r13 =>
  ifA r13
  (some (AOut.ret [r12, (gd l 1)] S10))
  (pk (ldA S10 r9 7) S10 fun r14 =>
  pq (call0 run 127 [r14, (gd l 1)] S10) fun r15 =>
  pk (aun .not r15) S10 fun r16 =>
  ifA r16
  (some (AOut.ret [AV.int .i64 4, (gd l 1)] S10))
  (pq (sliceA 7 a1 none (some ((gd l 1))) none S10) fun r17 =>
  pk (ldA S10 r9 7) S10 fun r18 =>
  pq (call0 run 128 [r17, r18] S10) fun r19 =>
  pk (abin Tryz.prog .geq 3 r19 (AV.int .i64 0)) S10 fun r20 =>
  ifA r20
  (some (AOut.ret [AV.int .i64 6, (gd l 1)] S10))
  (pk (abin Tryz.prog .add 3 ((gd l 1)) (AV.int .i64 1)) S10 fun r21 =>
  some (AOut.norm [(gd l 0), r21] S10)))))
  (some (AOut.exit 1 [(gd l 0), (gd l 1)] S))
def b64 (C : Cfg) (run : RunT) (a0 a1 : AV) (S : St) : OA :=
  pq (call0 run 125 [a0] S) fun r1 =>
  pk (aun .not r1) S fun r2 =>
  ifA r2
  (some (AV.int .i64 3, S))
  (pk (alen a1) S fun r3 =>
  pk (abin Tryz.prog .gtr 3 r3 (AV.int .i64 240)) S fun r4 =>
  ifA r4
  (some (AV.int .i64 2, S))
  (pk (alen a1) S fun r5 =>
  (aloop (s64_0 C run a0 a1 r5) C.N [AV.int .i64 0, AV.int .i64 0] S).bind fun
  | AOut.norm _ _ => (none)
  | AOut.exit x22 l22 S22 => (if x22 = 1 then (some (AV.int .i64 0, S22)) else (none))
  | AOut.ret l22 S22 => (some ((gd l22 0), S22))))
theorem t64 (N d : Nat) (a0 a1 : AV) (S : St) : R N (d + 1) 64 [a0, a1] S = b64 (cfg N) (R N d) a0 a1 S := by unfold R; kernel_rfl
def s65_0 (C : Cfg) (run : RunT) (a0 : AV) (a1 : AV) (r1 : AV) (l : List AV) (S : St) : Option AOut :=
  pk (bin2 Tryz.prog .lss 3 ((gd l 1)) r1) S fun r2 =>
  ifA r2
  ((pk (pindex 1 a1 ((gd l 1)) S) S fun r3 =>
  pk (ld1 S r3) S fun r4 =>
  pq (call0 run 129 [a0, r4] S) fun r5 =>
  pk (aun .not r5) S fun r6 =>
  ifA r6
  (some (AOut.ret [AV.int .i64 3] S))
  (pk (abin Tryz.prog .gtr 3 ((gd l 1)) (AV.int .i64 0)) S fun r7 =>
  guardA r7 true
  (pk (abin Tryz.prog .sub 3 ((gd l 1)) (AV.int .i64 1)) S fun r8 =>
  pk (pindex 1 a1 r8 S) S fun r9 =>
  pk (ld1 S r9) S fun r10 =>
  pk (bin2 Tryz.prog .leq 2 r4 r10) S fun r11 =>
  ifA r11
  (some (AOut.ret [AV.int .i64 1] S))
  (some (AOut.norm [(gd l 0)] S)))
  (some (AOut.norm [(gd l 0)] S)))).bind fun
  | AOut.norm l12 S12 => (pk (abin Tryz.prog .add 3 ((gd l 1)) (AV.int .i64 1)) S12 fun r13 =>
  some (AOut.norm [(gd l12 0), r13] S12))
  | AOut.exit x12 l12 S12 => (some (AOut.exit x12 [(gd l12 0), (gd l 1)] S12))
  | AOut.ret l12 S12 => (some (AOut.ret [(gd l12 0), (gd l 1)] S12)))
  (some (AOut.exit 0 [(gd l 0), (gd l 1)] S))
def b65 (C : Cfg) (run : RunT) (a0 a1 : AV) (S : St) : OA :=
  pk (alen a1) S fun r1 =>
  (aloop (s65_0 C run a0 a1 r1) C.N [AV.int .i64 0, AV.int .i64 0] S).bind fun
  | AOut.norm _ _ => (none)
  | AOut.exit x14 l14 S14 => (if x14 = 0 then (some (AV.int .i64 0, S14)) else (none))
  | AOut.ret l14 S14 => (some ((gd l14 0), S14))
theorem t65 (N d : Nat) (a0 a1 : AV) (S : St) : R N (d + 1) 65 [a0, a1] S = b65 (cfg N) (R N d) a0 a1 S := by unfold R; kernel_rfl
def s159_0 (C : Cfg) (run : RunT) (a0 : AV) (a1 : AV) (r1 : AV) (l : List AV) (S : St) : Option AOut :=
  pk (bin2 Tryz.prog .lss 3 ((gd l 1)) r1) S fun r2 =>
  ifA r2
  (pk (pindex 1 a0 ((gd l 1)) S) S fun r3 =>
  pk (ld1 S r3) S fun r4 =>
  pk (bin2 Tryz.prog .eql 2 a1 r4) S fun r5 =>
  ifA r5
  (some (AOut.ret [(gd l 1), (gd l 1)] S))
  (pk (abin Tryz.prog .add 3 ((gd l 1)) (AV.int .i64 1)) S fun r6 =>
  some (AOut.norm [(gd l 0), r6] S)))
  (some (AOut.exit 0 [(gd l 0), (gd l 1)] S))
def b159 (C : Cfg) (run : RunT) (a0 a1 : AV) (S : St) : OA :=
  pk (alen a0) S fun r1 =>
  (aloop (s159_0 C run a0 a1 r1) C.N [AV.int .i64 0, AV.int .i64 0] S).bind fun
  | AOut.norm _ _ => (none)
  | AOut.exit x7 l7 S7 => (if x7 = 0 then (some (AV.int .i64 (-1), S7)) else (none))
  | AOut.ret l7 S7 => (some ((gd l7 0), S7))
theorem t159 (N d : Nat) (a0 a1 : AV) (S : St) : R N (d + 1) 159 [a0, a1] S = b159 (cfg N) (R N d) a0 a1 S := by unfold R; kernel_rfl
def b92 (C : Cfg) (run : RunT) (a0 a1 : AV) (S : St) : OA :=
  pq (call0 run 159 [a0, a1] S) fun r1 =>
  pk (abin Tryz.prog .geq 3 r1 (AV.int .i64 0)) S fun r2 =>
  some (r2, S)
theorem t92 (N d : Nat) (a0 a1 : AV) (S : St) : R N (d + 1) 92 [a0, a1] S = b92 (cfg N) (R N d) a0 a1 S := by unfold R; kernel_rfl
def s67_0 (C : Cfg) (run : RunT) (a0 : AV) (a1 : AV) (l : List AV) (S : St) : Option AOut :=
  pq (call0 run 130 [a0] S) fun r2 =>
  pk (bin2 Tryz.prog .leq 2 ((gd l 1)) r2) S fun r3 =>
  ifA r3
  ((pq (call0 run 92 [a1, (gd l 1)] S) fun r4 =>
  pk (aun .not r4) S fun r5 =>
  ifA r5
  (pe (abuildS Tryz.prog 22 1 [(0, (gd l 1))] S) fun r6 S6 =>
  pe (appA 1 8 ((gd l 0)) r6 S6) fun r7 S7 =>
  some (AOut.norm [r7] S7))
  (some (AOut.norm [(gd l 0)] S))).bind fun
  | AOut.norm l8 S8 => (pk (abin Tryz.prog .add 2 ((gd l 1)) (AV.int .i64 1)) S8 fun r9 =>
  some (AOut.norm [(gd l8 0), r9] S8))
  | AOut.exit x8 l8 S8 => (some (AOut.exit x8 [(gd l8 0), (gd l 1)] S8))
  | AOut.ret l8 S8 => (some (AOut.ret [(gd l8 0), (gd l 1)] S8)))
  (some (AOut.exit 0 [(gd l 0), (gd l 1)] S))
def b67 (C : Cfg) (run : RunT) (a0 a1 : AV) (S : St) : OA :=
  pe (abuildS Tryz.prog 22 0 [] S) fun r1 S1 =>
  (aloop (s67_0 C run a0 a1) C.N [r1, AV.int .i64 1] S1).bind fun
  | AOut.norm _ _ => (none)
  | AOut.exit x10 l10 S10 => (if x10 = 0 then (some ((gd l10 0), S10)) else (none))
  | AOut.ret l10 S10 => (some (AV.rsl false true [], S10))
theorem t67 (N d : Nat) (a0 a1 : AV) (S : St) : R N (d + 1) 67 [a0, a1] S = b67 (cfg N) (R N d) a0 a1 S := by unfold R; kernel_rfl
def b270 (C : Cfg) (run : RunT) (a0 : AV) (S : St) : OA :=
  pk (bin2 Tryz.prog .neq 2 a0 a0) S fun r1 =>
  some (r1, S)
theorem t270 (N d : Nat) (a0 : AV) (S : St) : R N (d + 1) 270 [a0] S = b270 (cfg N) (R N d) a0 S := by unfold R; kernel_rfl
def b246 (C : Cfg) (run : RunT) (a0 a1 : AV) (S : St) : OA :=
  (pq (call0 run 270 [a0] S) fun r1 =>
  guardA r1 true
  (pq (call0 run 270 [a1] S) fun r2 =>
  pk (aun .not r2) S fun r3 =>
  guardA r3 false
  (pk (bin2 Tryz.prog .lss 2 a0 a1) S fun r4 =>
  some (AOut.norm [r4] S))
  (some (AOut.norm [AV.bool true] S)))
  (pk (bin2 Tryz.prog .lss 2 a0 a1) S fun r5 =>
  some (AOut.norm [r5] S))).bind fun
  | AOut.norm l6 S6 => (some ((gd l6 0), S6))
  | AOut.exit x6 l6 S6 => (none)
  | AOut.ret l6 S6 => (some ((gd l6 0), S6))
theorem t246 (N d : Nat) (a0 a1 : AV) (S : St) : R N (d + 1) 246 [a0, a1] S = b246 (cfg N) (R N d) a0 a1 S := by unfold R; kernel_rfl
def s240_0 (C : Cfg) (run : RunT) (a0 : AV) (a1 : AV) (l3 : List AV) (S : St) : Option AOut :=
  ((pk (bin2 Tryz.prog .gtr 3 ((gd l3 0)) a1) S fun r4 =>
  guardA r4 true
  (pk (pindex 1 a0 ((gd l3 0)) S) S fun r5 =>
  pk (ld1 S r5) S fun r6 =>
  pk (abin Tryz.prog .sub 3 ((gd l3 0)) (AV.int .i64 1)) S fun r7 =>
  pk (pindex 1 a0 r7 S) S fun r8 =>
  pk (ld1 S r8) S fun r9 =>
  pq (call0 run 246 [r6, r9] S) fun r10 =>
  some (AOut.norm [r10] S))
  (some (AOut.norm [AV.bool false] S))).bind fun
  | AOut.norm l11 S11 => (ifA ((gd l11 0))
  (some (AOut.norm [(gd l11 0)] S11))
  (some (AOut.exit 2 [(gd l11 0)] S11)))
  | AOut.exit x11 l11 S11 => (some (AOut.exit x11 [(gd l11 0)] S11))
  | AOut.ret l11 S11 => (some (AOut.ret [(gd l11 0)] S11))).bind fun
  | AOut.norm l12 S12 => (pk (abin Tryz.prog .sub 3 ((gd l3 0)) (AV.int .i64 1)) S12 fun r13 =>
  pk (abin Tryz.prog .sub 3 ((gd l3 0)) (AV.int .i64 1)) S12 fun r14 =>
  pk (pindex 1 a0 r14 S12) S12 fun r15 =>
  pk (ld1 S12 r15) S12 fun r16 =>
  pk (pindex 1 a0 ((gd l3 0)) S12) S12 fun r17 =>
  pk (ld1 S12 r17) S12 fun r18 =>
  pk (pindex 1 a0 ((gd l3 0)) S12) S12 fun r19 =>
  pe (storeA 1 r19 r16 S12) fun r20 S20 =>
  pk (pindex 1 a0 r13 S20) S20 fun r21 =>
  pe (storeA 1 r21 r18 S20) fun r22 S22 =>
  pk (abin Tryz.prog .sub 3 ((gd l3 0)) (AV.int .i64 1)) S22 fun r23 =>
  some (AOut.norm [r23] S22))
  | AOut.exit x12 l12 S12 => (some (AOut.exit x12 [(gd l3 0)] S12))
  | AOut.ret l12 S12 => (some (AOut.ret [(gd l3 0)] S12))
def s240_1 (C : Cfg) (run : RunT) (a0 : AV) (a1 : AV) (a2 : AV) (l : List AV) (S : St) : Option AOut :=
  pk (bin2 Tryz.prog .lss 3 ((gd l 0)) a2) S fun r2 =>
  ifA r2
  ((aloop (s240_0 C run a0 a1) C.N [(gd l 0)] S).bind fun
  | AOut.norm _ _ => (none)
  | AOut.exit x24 l24 S24 => (if x24 = 2 then (pk (abin Tryz.prog .add 3 ((gd l 0)) (AV.int .i64 1)) S24 fun r25 =>
  some (AOut.norm [r25] S24)) else (if x24 = 1 then (pk (abin Tryz.prog .add 3 ((gd l 0)) (AV.int .i64 1)) S24 fun r26 =>
  some (AOut.norm [r26] S24)) else (some (AOut.exit x24 [(gd l 0)] S24))))
  | AOut.ret l24 S24 => (some (AOut.ret [(gd l 0)] S24)))
  (some (AOut.exit 0 [(gd l 0)] S))
def b240 (C : Cfg) (run : RunT) (a0 a1 a2 : AV) (S : St) : OA :=
  pk (abin Tryz.prog .add 3 a1 (AV.int .i64 1)) S fun r1 =>
  (aloop (s240_1 C run a0 a1 a2) C.N [r1] S).bind fun
  | AOut.norm _ _ => (none)
  | AOut.exit x27 l27 S27 => (if x27 = 0 then (some (und, S27)) else (none))
  | AOut.ret l27 S27 => (some (und, S27))
theorem t240 (N d : Nat) (a0 a1 a2 : AV) (S : St) : R N (d + 1) 240 [a0, a1, a2] S = b240 (cfg N) (R N d) a0 a1 a2 S := by unfold R; kernel_rfl
def s265_0 (C : Cfg) (run : RunT) (a0 : AV) (a2 : AV) (a3 : AV) (l : List AV) (S : St) : Option AOut :=
  pk (abin Tryz.prog .mul 3 (AV.int .i64 2) ((gd l 0))) S fun r1 =>
  pk (abin Tryz.prog .add 3 r1 (AV.int .i64 1)) S fun r2 =>
  pk (bin2 Tryz.prog .geq 3 r2 a2) S fun r3 =>
  ifA r3
  (some (AOut.exit 0 [(gd l 0)] S))
  ((pk (abin Tryz.prog .add 3 r2 (AV.int .i64 1)) S fun r4 =>
  pk (bin2 Tryz.prog .lss 3 r4 a2) S fun r5 =>
  guardA r5 true
  (pk (bin2 Tryz.prog .add 3 a3 r2) S fun r6 =>
  pk (pindex 1 a0 r6 S) S fun r7 =>
  pk (ld1 S r7) S fun r8 =>
  pk (bin2 Tryz.prog .add 3 a3 r2) S fun r9 =>
  pk (abin Tryz.prog .add 3 r9 (AV.int .i64 1)) S fun r10 =>
  pk (pindex 1 a0 r10 S) S fun r11 =>
  pk (ld1 S r11) S fun r12 =>
  pq (call0 run 246 [r8, r12] S) fun r13 =>
  ifA r13
  (pk (abin Tryz.prog .add 3 r2 (AV.int .i64 1)) S fun r14 =>
  some (AOut.norm [r14] S))
  (some (AOut.norm [r2] S)))
  (some (AOut.norm [r2] S))).bind fun
  | AOut.norm l15 S15 => (pk (bin2 Tryz.prog .add 3 a3 ((gd l 0))) S15 fun r16 =>
  pk (pindex 1 a0 r16 S15) S15 fun r17 =>
  pk (ld1 S15 r17) S15 fun r18 =>
  pk (bin2 Tryz.prog .add 3 a3 ((gd l15 0))) S15 fun r19 =>
  pk (pindex 1 a0 r19 S15) S15 fun r20 =>
  pk (ld1 S15 r20) S15 fun r21 =>
  pq (call0 run 246 [r18, r21] S15) fun r22 =>
  pk (aun .not r22) S15 fun r23 =>
  ifA r23
  (some (AOut.ret [(gd l 0)] S15))
  (pk (bin2 Tryz.prog .add 3 a3 ((gd l 0))) S15 fun r24 =>
  pk (bin2 Tryz.prog .add 3 a3 ((gd l15 0))) S15 fun r25 =>
  pk (bin2 Tryz.prog .add 3 a3 ((gd l15 0))) S15 fun r26 =>
  pk (pindex 1 a0 r26 S15) S15 fun r27 =>
  pk (ld1 S15 r27) S15 fun r28 =>
  pk (bin2 Tryz.prog .add 3 a3 ((gd l 0))) S15 fun r29 =>
  pk (pindex 1 a0 r29 S15) S15 fun r30 =>
  pk (ld1 S15 r30) S15 fun r31 =>
  pk (pindex 1 a0 r24 S15) S15 fun r32 =>
  pe (storeA 1 r32 r28 S15) fun r33 S33 =>
  pk (pindex 1 a0 r25 S33) S33 fun r34 =>
  pe (storeA 1 r34 r31 S33) fun r35 S35 =>
  some (AOut.norm [(gd l15 0)] S35)))
  | AOut.exit x15 l15 S15 => (if x15 = 1 then (some (AOut.norm [(gd l 0)] S15)) else (some (AOut.exit x15 [(gd l 0)] S15)))
  | AOut.ret l15 S15 => (some (AOut.ret [(gd l 0)] S15)))
def b265 (C : Cfg) (run : RunT) (a0 a1 a2 a3 : AV) (S : St) : OA :=
  (aloop (s265_0 C run a0 a2 a3) C.N [a1] S).bind fun
  | AOut.norm _ _ => (none)
  | AOut.exit x36 l36 S36 => (if x36 = 0 then (some (und, S36)) else (none))
  | AOut.ret l36 S36 => (some (und, S36))
theorem t265 (N d : Nat) (a0 a1 a2 a3 : AV) (S : St) : R N (d + 1) 265 [a0, a1, a2, a3] S = b265 (cfg N) (R N d) a0 a1 a2 a3 S := by unfold R; kernel_rfl
def s241_0 (C : Cfg) (run : RunT) (a0 : AV) (a1 : AV) (r1 : AV) (l : List AV) (S : St) : Option AOut :=
  pk (abin Tryz.prog .geq 3 ((gd l 0)) (AV.int .i64 0)) S fun r4 =>
  ifA r4
  (pe (callS run 265 [a0, (gd l 0), r1, a1] S) fun r5 S5 =>
  pk (abin Tryz.prog .sub 3 ((gd l 0)) (AV.int .i64 1)) S5 fun r6 =>
  some (AOut.norm [r6] S5))
  (some (AOut.exit 0 [(gd l 0)] S))
def s241_1 (C : Cfg) (run : RunT) (a0 : AV) (a1 : AV) (l : List AV) (S : St) : Option AOut :=
  pk (abin Tryz.prog .geq 3 ((gd l 0)) (AV.int .i64 0)) S fun r9 =>
  ifA r9
  (pk (bin2 Tryz.prog .add 3 a1 ((gd l 0))) S fun r10 =>
  pk (bin2 Tryz.prog .add 3 a1 ((gd l 0))) S fun r11 =>
  pk (pindex 1 a0 r11 S) S fun r12 =>
  pk (ld1 S r12) S fun r13 =>
  pk (pindex 1 a0 a1 S) S fun r14 =>
  pk (ld1 S r14) S fun r15 =>
  pk (pindex 1 a0 a1 S) S fun r16 =>
  pe (storeA 1 r16 r13 S) fun r17 S17 =>
  pk (pindex 1 a0 r10 S17) S17 fun r18 =>
  pe (storeA 1 r18 r15 S17) fun r19 S19 =>
  pe (callS run 265 [a0, AV.int .i64 0, (gd l 0), a1] S19) fun r20 S20 =>
  pk (abin Tryz.prog .sub 3 ((gd l 0)) (AV.int .i64 1)) S20 fun r21 =>
  some (AOut.norm [r21] S20))
  (some (AOut.exit 2 [(gd l 0)] S))
def b241 (C : Cfg) (run : RunT) (a0 a1 a2 : AV) (S : St) : OA :=
  pk (bin2 Tryz.prog .sub 3 a2 a1) S fun r1 =>
  pk (abin Tryz.prog .sub 3 r1 (AV.int .i64 1)) S fun r2 =>
  pk (abin Tryz.prog .quo 3 r2 (AV.int .i64 2)) S fun r3 =>
  (aloop (s241_0 C run a0 a1 r1) C.N [r3] S).bind fun
  | AOut.norm _ _ => (none)
  | AOut.exit x7 l7 S7 => (if x7 = 0 then (pk (abin Tryz.prog .sub 3 r1 (AV.int .i64 1)) S7 fun r8 =>
  (aloop (s241_1 C run a0 a1) C.N [r8] S7).bind fun
  | AOut.norm _ _ => (none)
  | AOut.exit x22 l22 S22 => (if x22 = 2 then (some (und, S22)) else (none))
  | AOut.ret l22 S22 => (some (und, S22))) else (none))
  | AOut.ret l7 S7 => (some (und, S7))
theorem t241 (N d : Nat) (a0 a1 a2 : AV) (S : St) : R N (d + 1) 241 [a0, a1, a2] S = b241 (cfg N) (R N d) a0 a1 a2 S := by unfold R; kernel_rfl
def b249 (C : Cfg) (run : RunT) (a0 : AV) (S : St) : OA :=
  (pk (abin Tryz.prog .geq 241 a0 (AV.int .u32 65536)) S fun r1 =>
  ifA r1
  (pk (abin Tryz.prog .shr 241 a0 (AV.int .u64 16)) S fun r2 =>
  some (AOut.norm [r2, AV.int .i64 16] S))
  (some (AOut.norm [a0, AV.int .i64 0] S))).bind fun
  | AOut.norm l3 S3 => ((pk (abin Tryz.prog .geq 241 ((gd l3 0)) (AV.int .u32 256)) S3 fun r4 =>
  ifA r4
  (pk (abin Tryz.prog .shr 241 ((gd l3 0)) (AV.int .u64 8)) S3 fun r5 =>
  pk (abin Tryz.prog .add 3 ((gd l3 1)) (AV.int .i64 8)) S3 fun r6 =>
  some (AOut.norm [r5, r6] S3))
  (some (AOut.norm [(gd l3 0), (gd l3 1)] S3))).bind fun
  | AOut.norm l7 S7 => (pk (aconv Tryz.prog 241 5 ((gd l7 0)) S7) S7 fun r8 =>
  pk (sindex (AV.str ⟨#[0, 1, 2, 2, 3, 3, 3, 3, 4, 4, 4, 4, 4, 4, 4, 4, 5, 5, 5, 5, 5, 5, 5, 5, 5, 5, 5, 5, 5, 5, 5, 5, 6, 6, 6, 6, 6, 6, 6, 6, 6, 6, 6, 6, 6, 6, 6, 6, 6, 6, 6, 6, 6, 6, 6, 6, 6, 6, 6, 6, 6, 6, 6, 6, 7, 7, 7, 7, 7, 7, 7, 7, 7, 7, 7, 7, 7, 7, 7, 7, 7, 7, 7, 7, 7, 7, 7, 7, 7, 7, 7, 7, 7, 7, 7, 7, 7, 7, 7, 7, 7, 7, 7, 7, 7, 7, 7, 7, 7, 7, 7, 7, 7, 7, 7, 7, 7, 7, 7, 7, 7, 7, 7, 7, 7, 7, 7, 7, 8, 8, 8, 8, 8, 8, 8, 8, 8, 8, 8, 8, 8, 8, 8, 8, 8, 8, 8, 8, 8, 8, 8, 8, 8, 8, 8, 8, 8, 8, 8, 8, 8, 8, 8, 8, 8, 8, 8, 8, 8, 8, 8, 8, 8, 8, 8, 8, 8, 8, 8, 8, 8, 8, 8, 8, 8, 8, 8, 8, 8, 8, 8, 8, 8, 8, 8, 8, 8, 8, 8, 8, 8, 8, 8, 8, 8, 8, 8, 8, 8, 8, 8, 8, 8, 8, 8, 8, 8, 8, 8, 8, 8, 8, 8, 8, 8, 8, 8, 8, 8, 8, 8, 8, 8, 8, 8, 8, 8, 8, 8, 8, 8, 8, 8, 8, 8, 8, 8, 8, 8, 8, 8, 8, 8, 8, 8, 8]⟩) r8) S7 fun r9 =>
  pk (aconv Tryz.prog 5 3 r9 S7) S7 fun r10 =>
  pk (bin2 Tryz.prog .add 3 ((gd l7 1)) r10) S7 fun r11 =>
  some (r11, S7))
  | AOut.exit x7 l7 S7 => (none)
  | AOut.ret l7 S7 => (some ((gd l7 1), S7)))
  | AOut.exit x3 l3 S3 => (none)
  | AOut.ret l3 S3 => (some ((gd l3 1), S3))
theorem t249 (N d : Nat) (a0 : AV) (S : St) : R N (d + 1) 249 [a0] S = b249 (cfg N) (R N d) a0 S := by unfold R; kernel_rfl
def b250 (C : Cfg) (run : RunT) (a0 : AV) (S : St) : OA :=
  (pk (abin Tryz.prog .geq 243 a0 (AV.int .u64 4294967296)) S fun r1 =>
  ifA r1
  (pk (abin Tryz.prog .shr 243 a0 (AV.int .u64 32)) S fun r2 =>
  some (AOut.norm [r2, AV.int .i64 32] S))
  (some (AOut.norm [a0, AV.int .i64 0] S))).bind fun
  | AOut.norm l3 S3 => ((pk (abin Tryz.prog .geq 243 ((gd l3 0)) (AV.int .u64 65536)) S3 fun r4 =>
  ifA r4
  (pk (abin Tryz.prog .shr 243 ((gd l3 0)) (AV.int .u64 16)) S3 fun r5 =>
  pk (abin Tryz.prog .add 3 ((gd l3 1)) (AV.int .i64 16)) S3 fun r6 =>
  some (AOut.norm [r5, r6] S3))
  (some (AOut.norm [(gd l3 0), (gd l3 1)] S3))).bind fun
  | AOut.norm l7 S7 => ((pk (abin Tryz.prog .geq 243 ((gd l7 0)) (AV.int .u64 256)) S7 fun r8 =>
  ifA r8
  (pk (abin Tryz.prog .shr 243 ((gd l7 0)) (AV.int .u64 8)) S7 fun r9 =>
  pk (abin Tryz.prog .add 3 ((gd l7 1)) (AV.int .i64 8)) S7 fun r10 =>
  some (AOut.norm [r9, r10] S7))
  (some (AOut.norm [(gd l7 0), (gd l7 1)] S7))).bind fun
  | AOut.norm l11 S11 => (pk (aconv Tryz.prog 243 5 ((gd l11 0)) S11) S11 fun r12 =>
  pk (sindex (AV.str ⟨#[0, 1, 2, 2, 3, 3, 3, 3, 4, 4, 4, 4, 4, 4, 4, 4, 5, 5, 5, 5, 5, 5, 5, 5, 5, 5, 5, 5, 5, 5, 5, 5, 6, 6, 6, 6, 6, 6, 6, 6, 6, 6, 6, 6, 6, 6, 6, 6, 6, 6, 6, 6, 6, 6, 6, 6, 6, 6, 6, 6, 6, 6, 6, 6, 7, 7, 7, 7, 7, 7, 7, 7, 7, 7, 7, 7, 7, 7, 7, 7, 7, 7, 7, 7, 7, 7, 7, 7, 7, 7, 7, 7, 7, 7, 7, 7, 7, 7, 7, 7, 7, 7, 7, 7, 7, 7, 7, 7, 7, 7, 7, 7, 7, 7, 7, 7, 7, 7, 7, 7, 7, 7, 7, 7, 7, 7, 7, 7, 8, 8, 8, 8, 8, 8, 8, 8, 8, 8, 8, 8, 8, 8, 8, 8, 8, 8, 8, 8, 8, 8, 8, 8, 8, 8, 8, 8, 8, 8, 8, 8, 8, 8, 8, 8, 8, 8, 8, 8, 8, 8, 8, 8, 8, 8, 8, 8, 8, 8, 8, 8, 8, 8, 8, 8, 8, 8, 8, 8, 8, 8, 8, 8, 8, 8, 8, 8, 8, 8, 8, 8, 8, 8, 8, 8, 8, 8, 8, 8, 8, 8, 8, 8, 8, 8, 8, 8, 8, 8, 8, 8, 8, 8, 8, 8, 8, 8, 8, 8, 8, 8, 8, 8, 8, 8, 8, 8, 8, 8, 8, 8, 8, 8, 8, 8, 8, 8, 8, 8, 8, 8, 8, 8, 8, 8, 8, 8]⟩) r12) S11 fun r13 =>
  pk (aconv Tryz.prog 5 3 r13 S11) S11 fun r14 =>
  pk (bin2 Tryz.prog .add 3 ((gd l11 1)) r14) S11 fun r15 =>
  some (r15, S11))
  | AOut.exit x11 l11 S11 => (none)
  | AOut.ret l11 S11 => (some ((gd l11 1), S11)))
  | AOut.exit x7 l7 S7 => (none)
  | AOut.ret l7 S7 => (some ((gd l7 1), S7)))
  | AOut.exit x3 l3 S3 => (none)
  | AOut.ret l3 S3 => (some ((gd l3 1), S3))
theorem t250 (N d : Nat) (a0 : AV) (S : St) : R N (d + 1) 250 [a0] S = b250 (cfg N) (R N d) a0 S := by unfold R; kernel_rfl
def b210 (C : Cfg) (run : RunT) (a0 : AV) (S : St) : OA :=
  pq (call0 run 250 [a0] S) fun r1 =>
  some (r1, S)
theorem t210 (N d : Nat) (a0 : AV) (S : St) : R N (d + 1) 210 [a0] S = b210 (cfg N) (R N d) a0 S := by unfold R; kernel_rfl
def b266 (C : Cfg) (run : RunT) (a0 : AV) (S : St) : OA :=
  pk (aconv Tryz.prog 3 208 a0 S) S fun r1 =>
  pq (call0 run 210 [r1] S) fun r2 =>
  pk (abin Tryz.prog .shl 208 (AV.int .u64 1) r2) S fun r3 =>
  some (r3, S)
theorem t266 (N d : Nat) (a0 : AV) (S : St) : R N (d + 1) 266 [a0] S = b266 (cfg N) (R N d) a0 S := by unfold R; kernel_rfl
def b267 (C : Cfg) (run : RunT) (a0 : AV) (S : St) : OA :=
  pq (nilA a0 S) fun r1 =>
  pk (ld1 S r1) S fun r2 =>
  pq (nilA a0 S) fun r3 =>
  pk (ld1 S r3) S fun r4 =>
  pk (abin Tryz.prog .shl 255 r4 (AV.int .u64 13)) S fun r5 =>
  pk (bin2 Tryz.prog .xor 255 r2 r5) S fun r6 =>
  pq (nilA a0 S) fun r7 =>
  pe (storeA 1 r7 r6 S) fun r8 S8 =>
  pq (nilA a0 S8) fun r9 =>
  pk (ld1 S8 r9) S8 fun r10 =>
  pq (nilA a0 S8) fun r11 =>
  pk (ld1 S8 r11) S8 fun r12 =>
  pk (abin Tryz.prog .shr 255 r12 (AV.int .u64 7)) S8 fun r13 =>
  pk (bin2 Tryz.prog .xor 255 r10 r13) S8 fun r14 =>
  pq (nilA a0 S8) fun r15 =>
  pe (storeA 1 r15 r14 S8) fun r16 S16 =>
  pq (nilA a0 S16) fun r17 =>
  pk (ld1 S16 r17) S16 fun r18 =>
  pq (nilA a0 S16) fun r19 =>
  pk (ld1 S16 r19) S16 fun r20 =>
  pk (abin Tryz.prog .shl 255 r20 (AV.int .u64 17)) S16 fun r21 =>
  pk (bin2 Tryz.prog .xor 255 r18 r21) S16 fun r22 =>
  pq (nilA a0 S16) fun r23 =>
  pe (storeA 1 r23 r22 S16) fun r24 S24 =>
  pq (nilA a0 S24) fun r25 =>
  pk (ld1 S24 r25) S24 fun r26 =>
  some (r26, S24)
theorem t267 (N d : Nat) (a0 : AV) (S : St) : R N (d + 1) 267 [a0] S = b267 (cfg N) (R N d) a0 S := by unfold R; kernel_rfl
def s242_0 (C : Cfg) (run : RunT) (a0 : AV) (a1 : AV) (r1 : AV) (r4 : AV) (r6 : AV) (l : List AV) (S : St) : Option AOut :=
  pk (abin Tryz.prog .quo 3 r1 (AV.int .i64 4)) S fun r11 =>
  pk (abin Tryz.prog .mul 3 r11 (AV.int .i64 2)) S fun r12 =>
  pk (bin2 Tryz.prog .add 3 a1 r12) S fun r13 =>
  pk (abin Tryz.prog .add 3 r13 (AV.int .i64 1)) S fun r14 =>
  pk (bin2 Tryz.prog .leq 3 ((gd l 0)) r14) S fun r15 =>
  ifA r15
  ((pe (callS run 267 [r4] S) fun r16 S16 =>
  pk (abin Tryz.prog .sub 208 r6 (AV.int .u64 1)) S16 fun r17 =>
  pk (bin2 Tryz.prog .and 208 r16 r17) S16 fun r18 =>
  pk (aconv Tryz.prog 208 3 r18 S16) S16 fun r19 =>
  (pk (bin2 Tryz.prog .geq 3 r19 r1) S16 fun r20 =>
  ifA r20
  (pk (bin2 Tryz.prog .sub 3 r19 r1) S16 fun r21 =>
  some (AOut.norm [r21] S16))
  (some (AOut.norm [r19] S16))).bind fun
  | AOut.norm l22 S22 => (pk (bin2 Tryz.prog .add 3 a1 ((gd l22 0))) S22 fun r23 =>
  pk (bin2 Tryz.prog .add 3 a1 ((gd l22 0))) S22 fun r24 =>
  pk (pindex 1 a0 r24 S22) S22 fun r25 =>
  pk (ld1 S22 r25) S22 fun r26 =>
  pk (pindex 1 a0 ((gd l 0)) S22) S22 fun r27 =>
  pk (ld1 S22 r27) S22 fun r28 =>
  pk (pindex 1 a0 ((gd l 0)) S22) S22 fun r29 =>
  pe (storeA 1 r29 r26 S22) fun r30 S30 =>
  pk (pindex 1 a0 r23 S30) S30 fun r31 =>
  pe (storeA 1 r31 r28 S30) fun r32 S32 =>
  some (AOut.norm [] S32))
  | AOut.exit x22 l22 S22 => (if x22 = 1 then (some (AOut.norm [] S22)) else (some (AOut.exit x22 [] S22)))
  | AOut.ret l22 S22 => (some (AOut.ret [] S22))).bind fun
  | AOut.norm l33 S33 => (pk (abin Tryz.prog .add 3 ((gd l 0)) (AV.int .i64 1)) S33 fun r34 =>
  some (AOut.norm [r34] S33))
  | AOut.exit x33 l33 S33 => (some (AOut.exit x33 [(gd l 0)] S33))
  | AOut.ret l33 S33 => (some (AOut.ret [(gd l 0)] S33)))
  (some (AOut.exit 0 [(gd l 0)] S))
def b242 (C : Cfg) (run : RunT) (a0 a1 a2 : AV) (S : St) : OA :=
  pk (bin2 Tryz.prog .sub 3 a2 a1) S fun r1 =>
  pk (abin Tryz.prog .geq 3 r1 (AV.int .i64 8)) S fun r2 =>
  ifA r2
  (pk (aconv Tryz.prog 3 255 r1 S) S fun r3 =>
  pe (some (newBox S [AV.int .u64 0])) fun r4 S4 =>
  pe (storeA 1 r4 r3 S4) fun r5 S5 =>
  pq (call0 run 266 [r1] S5) fun r6 =>
  pk (abin Tryz.prog .quo 3 r1 (AV.int .i64 4)) S5 fun r7 =>
  pk (abin Tryz.prog .mul 3 r7 (AV.int .i64 2)) S5 fun r8 =>
  pk (bin2 Tryz.prog .add 3 a1 r8) S5 fun r9 =>
  pk (abin Tryz.prog .sub 3 r9 (AV.int .i64 1)) S5 fun r10 =>
  (aloop (s242_0 C run a0 a1 r1 r4 r6) C.N [r10] S5).bind fun
  | AOut.norm _ _ => (none)
  | AOut.exit x35 l35 S35 => (if x35 = 0 then (some (und, S35)) else (none))
  | AOut.ret l35 S35 => (some (und, S35)))
  (some (und, S))
theorem t242 (N d : Nat) (a0 a1 a2 : AV) (S : St) : R N (d + 1) 242 [a0, a1, a2] S = b242 (cfg N) (R N d) a0 a1 a2 S := by unfold R; kernel_rfl
def b284 (C : Cfg) (run : RunT) (a0 a1 a2 a3 : AV) (S : St) : OA :=
  pk (pindex 1 a0 a2 S) S fun r1 =>
  pk (ld1 S r1) S fun r2 =>
  pk (pindex 1 a0 a1 S) S fun r3 =>
  pk (ld1 S r3) S fun r4 =>
  pq (call0 run 246 [r2, r4] S) fun r5 =>
  ifA r5
  (pq (nilA a3 S) fun r6 =>
  pk (ld1 S r6) S fun r7 =>
  pk (abin Tryz.prog .add 3 r7 (AV.int .i64 1)) S fun r8 =>
  pq (nilA a3 S) fun r9 =>
  pe (storeA 1 r9 r8 S) fun r10 S10 =>
  some (AV.tup [a2, a1], S10))
  (some (AV.tup [a1, a2], S))
theorem t284 (N d : Nat) (a0 a1 a2 a3 : AV) (S : St) : R N (d + 1) 284 [a0, a1, a2, a3] S = b284 (cfg N) (R N d) a0 a1 a2 a3 S := by unfold R; kernel_rfl
def b269 (C : Cfg) (run : RunT) (a0 a1 a2 a3 a4 : AV) (S : St) : OA :=
  pe (callS run 284 [a0, a1, a2, a4] S) fun r1 S1 =>
  pq (extA r1 0 S1) fun r2 =>
  pq (extA r1 1 S1) fun r3 =>
  pe (callS run 284 [a0, r3, a3, a4] S1) fun r4 S4 =>
  pq (extA r4 0 S4) fun r5 =>
  pq (extA r4 1 S4) fun r6 =>
  pe (callS run 284 [a0, r2, r5, a4] S4) fun r7 S7 =>
  pq (extA r7 0 S7) fun r8 =>
  pq (extA r7 1 S7) fun r9 =>
  some (r9, S7)
theorem t269 (N d : Nat) (a0 a1 a2 a3 a4 : AV) (S : St) : R N (d + 1) 269 [a0, a1, a2, a3, a4] S = b269 (cfg N) (R N d) a0 a1 a2 a3 a4 S := by unfold R; kernel_rfl
def b268 (C : Cfg) (run : RunT) (a0 a1 a2 : AV) (S : St) : OA :=
  pk (abin Tryz.prog .sub 3 a1 (AV.int .i64 1)) S fun r1 =>
  pk (abin Tryz.prog .add 3 a1 (AV.int .i64 1)) S fun r2 =>
  pe (callS run 269 [a0, r1, a1, r2, a2] S) fun r3 S3 =>
  some (r3, S3)
theorem t268 (N d : Nat) (a0 a1 a2 : AV) (S : St) : R N (d + 1) 268 [a0, a1, a2] S = b268 (cfg N) (R N d) a0 a1 a2 S := by unfold R; kernel_rfl
def b243 (C : Cfg) (run : RunT) (a0 a1 a2 : AV) (S : St) : OA :=
  pk (bin2 Tryz.prog .sub 3 a2 a1) S fun r1 =>
  pe (some (newBox S [AV.int .i64 0])) fun r2 S2 =>
  pk (abin Tryz.prog .quo 3 r1 (AV.int .i64 4)) S2 fun r3 =>
  pk (abin Tryz.prog .mul 3 r3 (AV.int .i64 1)) S2 fun r4 =>
  pk (bin2 Tryz.prog .add 3 a1 r4) S2 fun r5 =>
  pk (abin Tryz.prog .quo 3 r1 (AV.int .i64 4)) S2 fun r6 =>
  pk (abin Tryz.prog .mul 3 r6 (AV.int .i64 2)) S2 fun r7 =>
  pk (bin2 Tryz.prog .add 3 a1 r7) S2 fun r8 =>
  pk (abin Tryz.prog .quo 3 r1 (AV.int .i64 4)) S2 fun r9 =>
  pk (abin Tryz.prog .mul 3 r9 (AV.int .i64 3)) S2 fun r10 =>
  pk (bin2 Tryz.prog .add 3 a1 r10) S2 fun r11 =>
  (pk (abin Tryz.prog .geq 3 r1 (AV.int .i64 8)) S2 fun r12 =>
  ifA r12
  ((pk (abin Tryz.prog .geq 3 r1 (AV.int .i64 50)) S2 fun r13 =>
  ifA r13
  (pe (callS run 268 [a0, r5, r2] S2) fun r14 S14 =>
  pe (callS run 268 [a0, r8, r2] S14) fun r15 S15 =>
  pe (callS run 268 [a0, r11, r2] S15) fun r16 S16 =>
  some (AOut.norm [r14, r15, r16] S16))
  (some (AOut.norm [r5, r8, r11] S2))).bind fun
  | AOut.norm l17 S17 => (pe (callS run 269 [a0, (gd l17 0), (gd l17 1), (gd l17 2), r2] S17) fun r18 S18 =>
  some (AOut.norm [r18] S18))
  | AOut.exit x17 l17 S17 => (some (AOut.exit x17 [(gd l17 1)] S17))
  | AOut.ret l17 S17 => (some (AOut.ret [(gd l17 1)] S17)))
  (some (AOut.norm [r8] S2))).bind fun
  | AOut.norm l19 S19 => (pk (ld1 S19 r2) S19 fun r20 =>
  pk (abin Tryz.prog .eql 3 r20 (AV.int .i64 0)) S19 fun r21 =>
  ifA r21
  (some (AV.tup [(gd l19 0), AV.int .i64 1], S19))
  (pk (abin Tryz.prog .eql 3 r20 (AV.int .i64 12)) S19 fun r22 =>
  ifA r22
  (some (AV.tup [(gd l19 0), AV.int .i64 2], S19))
  (some (AV.tup [(gd l19 0), AV.int .i64 0], S19))))
  | AOut.exit x19 l19 S19 => (none)
  | AOut.ret l19 S19 => (some (AV.tup [AV.int .i64 0, AV.int .i64 0], S19))
theorem t243 (N d : Nat) (a0 a1 a2 : AV) (S : St) : R N (d + 1) 243 [a0, a1, a2] S = b243 (cfg N) (R N d) a0 a1 a2 S := by unfold R; kernel_rfl
def s244_0 (C : Cfg) (run : RunT) (a0 : AV) (l : List AV) (S : St) : Option AOut :=
  pk (bin2 Tryz.prog .lss 3 ((gd l 0)) ((gd l 1))) S fun r2 =>
  ifA r2
  (pk (pindex 1 a0 ((gd l 1)) S) S fun r3 =>
  pk (ld1 S r3) S fun r4 =>
  pk (pindex 1 a0 ((gd l 0)) S) S fun r5 =>
  pk (ld1 S r5) S fun r6 =>
  pk (pindex 1 a0 ((gd l 0)) S) S fun r7 =>
  pe (storeA 1 r7 r4 S) fun r8 S8 =>
  pk (pindex 1 a0 ((gd l 1)) S8) S8 fun r9 =>
  pe (storeA 1 r9 r6 S8) fun r10 S10 =>
  pk (abin Tryz.prog .add 3 ((gd l 0)) (AV.int .i64 1)) S10 fun r11 =>
  pk (abin Tryz.prog .sub 3 ((gd l 1)) (AV.int .i64 1)) S10 fun r12 =>
  some (AOut.norm [r11, r12] S10))
  (some (AOut.exit 0 [(gd l 0), (gd l 1)] S))
def b244 (C : Cfg) (run : RunT) (a0 a1 a2 : AV) (S : St) : OA :=
  pk (abin Tryz.prog .sub 3 a2 (AV.int .i64 1)) S fun r1 =>
  (aloop (s244_0 C run a0) C.N [a1, r1] S).bind fun
  | AOut.norm _ _ => (none)
  | AOut.exit x13 l13 S13 => (if x13 = 0 then (some (und, S13)) else (none))
  | AOut.ret l13 S13 => (some (und, S13))
theorem t244 (N d : Nat) (a0 a1 a2 : AV) (S : St) : R N (d + 1) 244 [a0, a1, a2] S = b244 (cfg N) (R N d) a0 a1 a2 S := by unfold R; kernel_rfl
def s245_0 (C : Cfg) (run : RunT) (a0 : AV) (a2 : AV) (l3 : List AV) (S : St) : Option AOut :=
  ((pk (bin2 Tryz.prog .lss 3 ((gd l3 0)) a2) S fun r4 =>
  guardA r4 true
  (pk (pindex 1 a0 ((gd l3 0)) S) S fun r5 =>
  pk (ld1 S r5) S fun r6 =>
  pk (abin Tryz.prog .sub 3 ((gd l3 0)) (AV.int .i64 1)) S fun r7 =>
  pk (pindex 1 a0 r7 S) S fun r8 =>
  pk (ld1 S r8) S fun r9 =>
  pq (call0 run 246 [r6, r9] S) fun r10 =>
  pk (aun .not r10) S fun r11 =>
  some (AOut.norm [r11] S))
  (some (AOut.norm [AV.bool false] S))).bind fun
  | AOut.norm l12 S12 => (ifA ((gd l12 0))
  (some (AOut.norm [(gd l12 0)] S12))
  (some (AOut.exit 2 [(gd l12 0)] S12)))
  | AOut.exit x12 l12 S12 => (some (AOut.exit x12 [(gd l12 0)] S12))
  | AOut.ret l12 S12 => (some (AOut.ret [(gd l12 0)] S12))).bind fun
  | AOut.norm l13 S13 => (pk (abin Tryz.prog .add 3 ((gd l3 0)) (AV.int .i64 1)) S13 fun r14 =>
  some (AOut.norm [r14] S13))
  | AOut.exit x13 l13 S13 => (some (AOut.exit x13 [(gd l3 0)] S13))
  | AOut.ret l13 S13 => (some (AOut.ret [(gd l3 0)] S13))
def s245_1 (C : Cfg) (run : RunT) (a0 : AV) (l32 : List AV) (S : St) : Option AOut :=
  pk (abin Tryz.prog .geq 3 ((gd l32 0)) (AV.int .i64 1)) S fun r33 =>
  ifA r33
  (pk (pindex 1 a0 ((gd l32 0)) S) S fun r34 =>
  pk (ld1 S r34) S fun r35 =>
  pk (abin Tryz.prog .sub 3 ((gd l32 0)) (AV.int .i64 1)) S fun r36 =>
  pk (pindex 1 a0 r36 S) S fun r37 =>
  pk (ld1 S r37) S fun r38 =>
  pq (call0 run 246 [r35, r38] S) fun r39 =>
  pk (aun .not r39) S fun r40 =>
  ifA r40
  (some (AOut.exit 4 [(gd l32 0)] S))
  (pk (abin Tryz.prog .sub 3 ((gd l32 0)) (AV.int .i64 1)) S fun r41 =>
  pk (abin Tryz.prog .sub 3 ((gd l32 0)) (AV.int .i64 1)) S fun r42 =>
  pk (pindex 1 a0 r42 S) S fun r43 =>
  pk (ld1 S r43) S fun r44 =>
  pk (pindex 1 a0 ((gd l32 0)) S) S fun r45 =>
  pk (ld1 S r45) S fun r46 =>
  pk (pindex 1 a0 ((gd l32 0)) S) S fun r47 =>
  pe (storeA 1 r47 r44 S) fun r48 S48 =>
  pk (pindex 1 a0 r41 S48) S48 fun r49 =>
  pe (storeA 1 r49 r46 S48) fun r50 S50 =>
  pk (abin Tryz.prog .sub 3 ((gd l32 0)) (AV.int .i64 1)) S50 fun r51 =>
  some (AOut.norm [r51] S50)))
  (some (AOut.exit 4 [(gd l32 0)] S))
def s245_2 (C : Cfg) (run : RunT) (a0 : AV) (a2 : AV) (l57 : List AV) (S : St) : Option AOut :=
  pk (bin2 Tryz.prog .lss 3 ((gd l57 0)) a2) S fun r58 =>
  ifA r58
  (pk (pindex 1 a0 ((gd l57 0)) S) S fun r59 =>
  pk (ld1 S r59) S fun r60 =>
  pk (abin Tryz.prog .sub 3 ((gd l57 0)) (AV.int .i64 1)) S fun r61 =>
  pk (pindex 1 a0 r61 S) S fun r62 =>
  pk (ld1 S r62) S fun r63 =>
  pq (call0 run 246 [r60, r63] S) fun r64 =>
  pk (aun .not r64) S fun r65 =>
  ifA r65
  (some (AOut.exit 6 [(gd l57 0)] S))
  (pk (abin Tryz.prog .sub 3 ((gd l57 0)) (AV.int .i64 1)) S fun r66 =>
  pk (abin Tryz.prog .sub 3 ((gd l57 0)) (AV.int .i64 1)) S fun r67 =>
  pk (pindex 1 a0 r67 S) S fun r68 =>
  pk (ld1 S r68) S fun r69 =>
  pk (pindex 1 a0 ((gd l57 0)) S) S fun r70 =>
  pk (ld1 S r70) S fun r71 =>
  pk (pindex 1 a0 ((gd l57 0)) S) S fun r72 =>
  pe (storeA 1 r72 r69 S) fun r73 S73 =>
  pk (pindex 1 a0 r66 S73) S73 fun r74 =>
  pe (storeA 1 r74 r71 S73) fun r75 S75 =>
  pk (abin Tryz.prog .add 3 ((gd l57 0)) (AV.int .i64 1)) S75 fun r76 =>
  some (AOut.norm [r76] S75)))
  (some (AOut.exit 6 [(gd l57 0)] S))
def s245_3 (C : Cfg) (run : RunT) (a0 : AV) (a1 : AV) (a2 : AV) (l : List AV) (S : St) : Option AOut :=
  pk (abin Tryz.prog .lss 3 ((gd l 2)) (AV.int .i64 5)) S fun r2 =>
  ifA r2
  (((aloop (s245_0 C run a0 a2) C.N [(gd l 1)] S).bind fun
  | AOut.norm _ _ => (none)
  | AOut.exit x15 l15 S15 => (if x15 = 2 then (pk (bin2 Tryz.prog .eql 3 ((gd l15 0)) a2) S15 fun r16 =>
  ifA r16
  (some (AOut.ret [AV.bool true, (gd l15 0)] S15))
  (pk (bin2 Tryz.prog .sub 3 a2 a1) S15 fun r17 =>
  pk (abin Tryz.prog .lss 3 r17 (AV.int .i64 50)) S15 fun r18 =>
  ifA r18
  (some (AOut.ret [AV.bool false, (gd l15 0)] S15))
  (pk (abin Tryz.prog .sub 3 ((gd l15 0)) (AV.int .i64 1)) S15 fun r19 =>
  pk (abin Tryz.prog .sub 3 ((gd l15 0)) (AV.int .i64 1)) S15 fun r20 =>
  pk (pindex 1 a0 r20 S15) S15 fun r21 =>
  pk (ld1 S15 r21) S15 fun r22 =>
  pk (pindex 1 a0 ((gd l15 0)) S15) S15 fun r23 =>
  pk (ld1 S15 r23) S15 fun r24 =>
  pk (pindex 1 a0 ((gd l15 0)) S15) S15 fun r25 =>
  pe (storeA 1 r25 r22 S15) fun r26 S26 =>
  pk (pindex 1 a0 r19 S26) S26 fun r27 =>
  pe (storeA 1 r27 r24 S26) fun r28 S28 =>
  (pk (bin2 Tryz.prog .sub 3 ((gd l15 0)) a1) S28 fun r29 =>
  pk (abin Tryz.prog .geq 3 r29 (AV.int .i64 2)) S28 fun r30 =>
  ifA r30
  (pk (abin Tryz.prog .sub 3 ((gd l15 0)) (AV.int .i64 1)) S28 fun r31 =>
  (aloop (s245_1 C run a0) C.N [r31] S28).bind fun
  | AOut.norm _ _ => (none)
  | AOut.exit x52 l52 S52 => (if x52 = 4 then (some (AOut.norm [] S52)) else (some (AOut.exit x52 [] S52)))
  | AOut.ret l52 S52 => (some (AOut.ret [] S52)))
  (some (AOut.norm [] S28))).bind fun
  | AOut.norm l53 S53 => (pk (bin2 Tryz.prog .sub 3 a2 ((gd l15 0))) S53 fun r54 =>
  pk (abin Tryz.prog .geq 3 r54 (AV.int .i64 2)) S53 fun r55 =>
  ifA r55
  (pk (abin Tryz.prog .add 3 ((gd l15 0)) (AV.int .i64 1)) S53 fun r56 =>
  (aloop (s245_2 C run a0 a2) C.N [r56] S53).bind fun
  | AOut.norm _ _ => (none)
  | AOut.exit x77 l77 S77 => (if x77 = 6 then (some (AOut.norm [(gd l 0), (gd l15 0)] S77)) else (if x77 = 1 then (some (AOut.norm [(gd l 0), (gd l15 0)] S77)) else (some (AOut.exit x77 [(gd l 0), (gd l15 0)] S77))))
  | AOut.ret l77 S77 => (some (AOut.ret [(gd l 0), (gd l15 0)] S77)))
  (some (AOut.norm [(gd l 0), (gd l15 0)] S53)))
  | AOut.exit x53 l53 S53 => (if x53 = 1 then (some (AOut.norm [(gd l 0), (gd l15 0)] S53)) else (some (AOut.exit x53 [(gd l 0), (gd l15 0)] S53)))
  | AOut.ret l53 S53 => (some (AOut.ret [(gd l 0), (gd l15 0)] S53))))) else (if x15 = 1 then (some (AOut.norm [(gd l 0), (gd l15 0)] S15)) else (some (AOut.exit x15 [(gd l 0), (gd l15 0)] S15))))
  | AOut.ret l15 S15 => (some (AOut.ret [(gd l 0), (gd l15 0)] S15))).bind fun
  | AOut.norm l78 S78 => (pk (abin Tryz.prog .add 3 ((gd l 2)) (AV.int .i64 1)) S78 fun r79 =>
  some (AOut.norm [(gd l78 0), (gd l78 1), r79] S78))
  | AOut.exit x78 l78 S78 => (some (AOut.exit x78 [(gd l78 0), (gd l78 1), (gd l 2)] S78))
  | AOut.ret l78 S78 => (some (AOut.ret [(gd l78 0), (gd l78 1), (gd l 2)] S78)))
  (some (AOut.exit 0 [(gd l 0), (gd l 1), (gd l 2)] S))
def b245 (C : Cfg) (run : RunT) (a0 a1 a2 : AV) (S : St) : OA :=
  pk (abin Tryz.prog .add 3 a1 (AV.int .i64 1)) S fun r1 =>
  (aloop (s245_3 C run a0 a1 a2) C.N [AV.bool false, r1, AV.int .i64 0] S).bind fun
  | AOut.norm _ _ => (none)
  | AOut.exit x80 l80 S80 => (if x80 = 0 then (some (AV.bool false, S80)) else (none))
  | AOut.ret l80 S80 => (some ((gd l80 0), S80))
theorem t245 (N d : Nat) (a0 a1 a2 : AV) (S : St) : R N (d + 1) 245 [a0, a1, a2] S = b245 (cfg N) (R N d) a0 a1 a2 S := by unfold R; kernel_rfl
def s247_0 (C : Cfg) (run : RunT) (a0 : AV) (a1 : AV) (l : List AV) (l11 : List AV) (S : St) : Option AOut :=
  ((pk (bin2 Tryz.prog .leq 3 ((gd l11 0)) ((gd l 1))) S fun r12 =>
  guardA r12 true
  (pk (pindex 1 a0 a1 S) S fun r13 =>
  pk (ld1 S r13) S fun r14 =>
  pk (pindex 1 a0 ((gd l11 0)) S) S fun r15 =>
  pk (ld1 S r15) S fun r16 =>
  pq (call0 run 246 [r14, r16] S) fun r17 =>
  pk (aun .not r17) S fun r18 =>
  some (AOut.norm [r18] S))
  (some (AOut.norm [AV.bool false] S))).bind fun
  | AOut.norm l19 S19 => (ifA ((gd l19 0))
  (some (AOut.norm [(gd l19 0)] S19))
  (some (AOut.exit 2 [(gd l19 0)] S19)))
  | AOut.exit x19 l19 S19 => (some (AOut.exit x19 [(gd l19 0)] S19))
  | AOut.ret l19 S19 => (some (AOut.ret [(gd l19 0)] S19))).bind fun
  | AOut.norm l20 S20 => (pk (abin Tryz.prog .add 3 ((gd l11 0)) (AV.int .i64 1)) S20 fun r21 =>
  some (AOut.norm [r21] S20))
  | AOut.exit x20 l20 S20 => (some (AOut.exit x20 [(gd l11 0)] S20))
  | AOut.ret l20 S20 => (some (AOut.ret [(gd l11 0)] S20))
def s247_1 (C : Cfg) (run : RunT) (a0 : AV) (a1 : AV) (l22 : List AV) (l23 : List AV) (S : St) : Option AOut :=
  ((pk (bin2 Tryz.prog .leq 3 ((gd l22 0)) ((gd l23 0))) S fun r24 =>
  guardA r24 true
  (pk (pindex 1 a0 a1 S) S fun r25 =>
  pk (ld1 S r25) S fun r26 =>
  pk (pindex 1 a0 ((gd l23 0)) S) S fun r27 =>
  pk (ld1 S r27) S fun r28 =>
  pq (call0 run 246 [r26, r28] S) fun r29 =>
  some (AOut.norm [r29] S))
  (some (AOut.norm [AV.bool false] S))).bind fun
  | AOut.norm l30 S30 => (ifA ((gd l30 0))
  (some (AOut.norm [(gd l30 0)] S30))
  (some (AOut.exit 4 [(gd l30 0)] S30)))
  | AOut.exit x30 l30 S30 => (some (AOut.exit x30 [(gd l30 0)] S30))
  | AOut.ret l30 S30 => (some (AOut.ret [(gd l30 0)] S30))).bind fun
  | AOut.norm l31 S31 => (pk (abin Tryz.prog .sub 3 ((gd l23 0)) (AV.int .i64 1)) S31 fun r32 =>
  some (AOut.norm [r32] S31))
  | AOut.exit x31 l31 S31 => (some (AOut.exit x31 [(gd l23 0)] S31))
  | AOut.ret l31 S31 => (some (AOut.ret [(gd l23 0)] S31))
def s247_2 (C : Cfg) (run : RunT) (a0 : AV) (a1 : AV) (l : List AV) (S : St) : Option AOut :=
  (aloop (s247_0 C run a0 a1 l) C.N [(gd l 0)] S).bind fun
  | AOut.norm _ _ => (none)
  | AOut.exit x22 l22 S22 => (if x22 = 2 then ((aloop (s247_1 C run a0 a1 l22) C.N [(gd l 1)] S22).bind fun
  | AOut.norm _ _ => (none)
  | AOut.exit x33 l33 S33 => (if x33 = 4 then (pk (bin2 Tryz.prog .gtr 3 ((gd l22 0)) ((gd l33 0))) S33 fun r34 =>
  ifA r34
  (some (AOut.exit 0 [(gd l22 0), (gd l33 0)] S33))
  (pk (pindex 1 a0 ((gd l33 0)) S33) S33 fun r35 =>
  pk (ld1 S33 r35) S33 fun r36 =>
  pk (pindex 1 a0 ((gd l22 0)) S33) S33 fun r37 =>
  pk (ld1 S33 r37) S33 fun r38 =>
  pk (pindex 1 a0 ((gd l22 0)) S33) S33 fun r39 =>
  pe (storeA 1 r39 r36 S33) fun r40 S40 =>
  pk (pindex 1 a0 ((gd l33 0)) S40) S40 fun r41 =>
  pe (storeA 1 r41 r38 S40) fun r42 S42 =>
  pk (abin Tryz.prog .add 3 ((gd l22 0)) (AV.int .i64 1)) S42 fun r43 =>
  pk (abin Tryz.prog .sub 3 ((gd l33 0)) (AV.int .i64 1)) S42 fun r44 =>
  some (AOut.norm [r43, r44] S42))) else (if x33 = 1 then (some (AOut.norm [(gd l22 0), (gd l33 0)] S33)) else (some (AOut.exit x33 [(gd l22 0), (gd l33 0)] S33))))
  | AOut.ret l33 S33 => (some (AOut.ret [(gd l22 0), (gd l33 0)] S33))) else (if x22 = 1 then (some (AOut.norm [(gd l22 0), (gd l 1)] S22)) else (some (AOut.exit x22 [(gd l22 0), (gd l 1)] S22))))
  | AOut.ret l22 S22 => (some (AOut.ret [(gd l22 0), (gd l 1)] S22))
def b247 (C : Cfg) (run : RunT) (a0 a1 a2 a3 : AV) (S : St) : OA :=
  pk (pindex 1 a0 a3 S) S fun r1 =>
  pk (ld1 S r1) S fun r2 =>
  pk (pindex 1 a0 a1 S) S fun r3 =>
  pk (ld1 S r3) S fun r4 =>
  pk (pindex 1 a0 a1 S) S fun r5 =>
  pe (storeA 1 r5 r2 S) fun r6 S6 =>
  pk (pindex 1 a0 a3 S6) S6 fun r7 =>
  pe (storeA 1 r7 r4 S6) fun r8 S8 =>
  pk (abin Tryz.prog .add 3 a1 (AV.int .i64 1)) S8 fun r9 =>
  pk (abin Tryz.prog .sub 3 a2 (AV.int .i64 1)) S8 fun r10 =>
  (aloop (s247_2 C run a0 a1) C.N [r9, r10] S8).bind fun
  | AOut.norm _ _ => (none)
  | AOut.exit x45 l45 S45 => (if x45 = 0 then (some ((gd l45 0), S45)) else (none))
  | AOut.ret l45 S45 => (some (AV.int .i64 0, S45))
theorem t247 (N d : Nat) (a0 a1 a2 a3 : AV) (S : St) : R N (d + 1) 247 [a0, a1, a2, a3] S = b247 (cfg N) (R N d) a0 a1 a2 a3 S := by unfold R; kernel_rfl
def s248_0 (C : Cfg) (run : RunT) (a0 : AV) (a1 : AV) (r10 : AV) (l : List AV) (S : St) : Option AOut :=
  ((pk (bin2 Tryz.prog .leq 3 ((gd l 0)) r10) S fun r11 =>
  guardA r11 true
  (pk (pindex 1 a0 ((gd l 0)) S) S fun r12 =>
  pk (ld1 S r12) S fun r13 =>
  pk (pindex 1 a0 a1 S) S fun r14 =>
  pk (ld1 S r14) S fun r15 =>
  pq (call0 run 246 [r13, r15] S) fun r16 =>
  some (AOut.norm [r16] S))
  (some (AOut.norm [AV.bool false] S))).bind fun
  | AOut.norm l17 S17 => (ifA ((gd l17 0))
  (some (AOut.norm [(gd l17 0)] S17))
  (some (AOut.exit 0 [(gd l17 0)] S17)))
  | AOut.exit x17 l17 S17 => (some (AOut.exit x17 [(gd l17 0)] S17))
  | AOut.ret l17 S17 => (some (AOut.ret [(gd l17 0)] S17))).bind fun
  | AOut.norm l18 S18 => (pk (abin Tryz.prog .add 3 ((gd l 0)) (AV.int .i64 1)) S18 fun r19 =>
  some (AOut.norm [r19] S18))
  | AOut.exit x18 l18 S18 => (some (AOut.exit x18 [(gd l 0)] S18))
  | AOut.ret l18 S18 => (some (AOut.ret [(gd l 0)] S18))
def s248_1 (C : Cfg) (run : RunT) (a0 : AV) (a1 : AV) (l20 : List AV) (l : List AV) (S : St) : Option AOut :=
  ((pk (bin2 Tryz.prog .leq 3 ((gd l20 0)) ((gd l 0))) S fun r21 =>
  guardA r21 true
  (pk (pindex 1 a0 ((gd l 0)) S) S fun r22 =>
  pk (ld1 S r22) S fun r23 =>
  pk (pindex 1 a0 a1 S) S fun r24 =>
  pk (ld1 S r24) S fun r25 =>
  pq (call0 run 246 [r23, r25] S) fun r26 =>
  pk (aun .not r26) S fun r27 =>
  some (AOut.norm [r27] S))
  (some (AOut.norm [AV.bool false] S))).bind fun
  | AOut.norm l28 S28 => (ifA ((gd l28 0))
  (some (AOut.norm [(gd l28 0)] S28))
  (some (AOut.exit 2 [(gd l28 0)] S28)))
  | AOut.exit x28 l28 S28 => (some (AOut.exit x28 [(gd l28 0)] S28))
  | AOut.ret l28 S28 => (some (AOut.ret [(gd l28 0)] S28))).bind fun
  | AOut.norm l29 S29 => (pk (abin Tryz.prog .sub 3 ((gd l 0)) (AV.int .i64 1)) S29 fun r30 =>
  some (AOut.norm [r30] S29))
  | AOut.exit x29 l29 S29 => (some (AOut.exit x29 [(gd l 0)] S29))
  | AOut.ret l29 S29 => (some (AOut.ret [(gd l 0)] S29))
def s248_2 (C : Cfg) (run : RunT) (a0 : AV) (a1 : AV) (l : List AV) (l51 : List AV) (S : St) : Option AOut :=
  ((pk (bin2 Tryz.prog .leq 3 ((gd l51 0)) ((gd l 1))) S fun r52 =>
  guardA r52 true
  (pk (pindex 1 a0 ((gd l51 0)) S) S fun r53 =>
  pk (ld1 S r53) S fun r54 =>
  pk (pindex 1 a0 a1 S) S fun r55 =>
  pk (ld1 S r55) S fun r56 =>
  pq (call0 run 246 [r54, r56] S) fun r57 =>
  some (AOut.norm [r57] S))
  (some (AOut.norm [AV.bool false] S))).bind fun
  | AOut.norm l58 S58 => (ifA ((gd l58 0))
  (some (AOut.norm [(gd l58 0)] S58))
  (some (AOut.exit 6 [(gd l58 0)] S58)))
  | AOut.exit x58 l58 S58 => (some (AOut.exit x58 [(gd l58 0)] S58))
  | AOut.ret l58 S58 => (some (AOut.ret [(gd l58 0)] S58))).bind fun
  | AOut.norm l59 S59 => (pk (abin Tryz.prog .add 3 ((gd l51 0)) (AV.int .i64 1)) S59 fun r60 =>
  some (AOut.norm [r60] S59))
  | AOut.exit x59 l59 S59 => (some (AOut.exit x59 [(gd l51 0)] S59))
  | AOut.ret l59 S59 => (some (AOut.ret [(gd l51 0)] S59))
def s248_3 (C : Cfg) (run : RunT) (a0 : AV) (a1 : AV) (l61 : List AV) (l62 : List AV) (S : St) : Option AOut :=
  ((pk (bin2 Tryz.prog .leq 3 ((gd l61 0)) ((gd l62 0))) S fun r63 =>
  guardA r63 true
  (pk (pindex 1 a0 ((gd l62 0)) S) S fun r64 =>
  pk (ld1 S r64) S fun r65 =>
  pk (pindex 1 a0 a1 S) S fun r66 =>
  pk (ld1 S r66) S fun r67 =>
  pq (call0 run 246 [r65, r67] S) fun r68 =>
  pk (aun .not r68) S fun r69 =>
  some (AOut.norm [r69] S))
  (some (AOut.norm [AV.bool false] S))).bind fun
  | AOut.norm l70 S70 => (ifA ((gd l70 0))
  (some (AOut.norm [(gd l70 0)] S70))
  (some (AOut.exit 8 [(gd l70 0)] S70)))
  | AOut.exit x70 l70 S70 => (some (AOut.exit x70 [(gd l70 0)] S70))
  | AOut.ret l70 S70 => (some (AOut.ret [(gd l70 0)] S70))).bind fun
  | AOut.norm l71 S71 => (pk (abin Tryz.prog .sub 3 ((gd l62 0)) (AV.int .i64 1)) S71 fun r72 =>
  some (AOut.norm [r72] S71))
  | AOut.exit x71 l71 S71 => (some (AOut.exit x71 [(gd l62 0)] S71))
  | AOut.ret l71 S71 => (some (AOut.ret [(gd l62 0)] S71))
def s248_4 (C : Cfg) (run : RunT) (a0 : AV) (a1 : AV) (l : List AV) (S : St) : Option AOut :=
  (aloop (s248_2 C run a0 a1 l) C.N [(gd l 0)] S).bind fun
  | AOut.norm _ _ => (none)
  | AOut.exit x61 l61 S61 => (if x61 = 6 then ((aloop (s248_3 C run a0 a1 l61) C.N [(gd l 1)] S61).bind fun
  | AOut.norm _ _ => (none)
  | AOut.exit x73 l73 S73 => (if x73 = 8 then (pk (bin2 Tryz.prog .gtr 3 ((gd l61 0)) ((gd l73 0))) S73 fun r74 =>
  ifA r74
  (some (AOut.exit 4 [(gd l61 0), (gd l73 0)] S73))
  (pk (pindex 1 a0 ((gd l73 0)) S73) S73 fun r75 =>
  pk (ld1 S73 r75) S73 fun r76 =>
  pk (pindex 1 a0 ((gd l61 0)) S73) S73 fun r77 =>
  pk (ld1 S73 r77) S73 fun r78 =>
  pk (pindex 1 a0 ((gd l61 0)) S73) S73 fun r79 =>
  pe (storeA 1 r79 r76 S73) fun r80 S80 =>
  pk (pindex 1 a0 ((gd l73 0)) S80) S80 fun r81 =>
  pe (storeA 1 r81 r78 S80) fun r82 S82 =>
  pk (abin Tryz.prog .add 3 ((gd l61 0)) (AV.int .i64 1)) S82 fun r83 =>
  pk (abin Tryz.prog .sub 3 ((gd l73 0)) (AV.int .i64 1)) S82 fun r84 =>
  some (AOut.norm [r83, r84] S82))) else (if x73 = 5 then (some (AOut.norm [(gd l61 0), (gd l73 0)] S73)) else (some (AOut.exit x73 [(gd l61 0), (gd l73 0)] S73))))
  | AOut.ret l73 S73 => (some (AOut.ret [(gd l61 0), (gd l73 0)] S73))) else (if x61 = 5 then (some (AOut.norm [(gd l61 0), (gd l 1)] S61)) else (some (AOut.exit x61 [(gd l61 0), (gd l 1)] S61))))
  | AOut.ret l61 S61 => (some (AOut.ret [(gd l61 0), (gd l 1)] S61))
def b248 (C : Cfg) (run : RunT) (a0 a1 a2 a3 : AV) (S : St) : OA :=
  pk (pindex 1 a0 a3 S) S fun r1 =>
  pk (ld1 S r1) S fun r2 =>
  pk (pindex 1 a0 a1 S) S fun r3 =>
  pk (ld1 S r3) S fun r4 =>
  pk (pindex 1 a0 a1 S) S fun r5 =>
  pe (storeA 1 r5 r2 S) fun r6 S6 =>
  pk (pindex 1 a0 a3 S6) S6 fun r7 =>
  pe (storeA 1 r7 r4 S6) fun r8 S8 =>
  pk (abin Tryz.prog .add 3 a1 (AV.int .i64 1)) S8 fun r9 =>
  pk (abin Tryz.prog .sub 3 a2 (AV.int .i64 1)) S8 fun r10 =>
  (aloop (s248_0 C run a0 a1 r10) C.N [r9] S8).bind fun
  | AOut.norm _ _ => (none)
  | AOut.exit x20 l20 S20 => (if x20 = 0 then ((aloop (s248_1 C run a0 a1 l20) C.N [r10] S20).bind fun
  | AOut.norm _ _ => (none)
  | AOut.exit x31 l31 S31 => (if x31 = 2 then (pk (bin2 Tryz.prog .gtr 3 ((gd l20 0)) ((gd l31 0))) S31 fun r32 =>
  ifA r32
  (pk (pindex 1 a0 a1 S31) S31 fun r33 =>
  pk (ld1 S31 r33) S31 fun r34 =>
  pk (pindex 1 a0 ((gd l31 0)) S31) S31 fun r35 =>
  pk (ld1 S31 r35) S31 fun r36 =>
  pk (pindex 1 a0 ((gd l31 0)) S31) S31 fun r37 =>
  pe (storeA 1 r37 r34 S31) fun r38 S38 =>
  pk (pindex 1 a0 a1 S38) S38 fun r39 =>
  pe (storeA 1 r39 r36 S38) fun r40 S40 =>
  some (AV.tup [(gd l31 0), AV.bool true], S40))
  (pk (pindex 1 a0 ((gd l31 0)) S31) S31 fun r41 =>
  pk (ld1 S31 r41) S31 fun r42 =>
  pk (pindex 1 a0 ((gd l20 0)) S31) S31 fun r43 =>
  pk (ld1 S31 r43) S31 fun r44 =>
  pk (pindex 1 a0 ((gd l20 0)) S31) S31 fun r45 =>
  pe (storeA 1 r45 r42 S31) fun r46 S46 =>
  pk (pindex 1 a0 ((gd l31 0)) S46) S46 fun r47 =>
  pe (storeA 1 r47 r44 S46) fun r48 S48 =>
  pk (abin Tryz.prog .add 3 ((gd l20 0)) (AV.int .i64 1)) S48 fun r49 =>
  pk (abin Tryz.prog .sub 3 ((gd l31 0)) (AV.int .i64 1)) S48 fun r50 =>
  (aloop (s248_4 C run a0 a1) C.N [r49, r50] S48).bind fun
  | AOut.norm _ _ => (none)
  | AOut.exit x85 l85 S85 => (if x85 = 4 then (pk (pindex 1 a0 a1 S85) S85 fun r86 =>
  pk (ld1 S85 r86) S85 fun r87 =>
  pk (pindex 1 a0 ((gd l85 1)) S85) S85 fun r88 =>
  pk (ld1 S85 r88) S85 fun r89 =>
  pk (pindex 1 a0 ((gd l85 1)) S85) S85 fun r90 =>
  pe (storeA 1 r90 r87 S85) fun r91 S91 =>
  pk (pindex 1 a0 a1 S91) S91 fun r92 =>
  pe (storeA 1 r92 r89 S91) fun r93 S93 =>
  some (AV.tup [(gd l85 1), AV.bool false], S93)) else (none))
  | AOut.ret l85 S85 => (some (AV.tup [AV.int .i64 0, AV.bool false], S85)))) else (none))
  | AOut.ret l31 S31 => (some (AV.tup [AV.int .i64 0, AV.bool false], S31))) else (none))
  | AOut.ret l20 S20 => (some (AV.tup [AV.int .i64 0, AV.bool false], S20))
theorem t248 (N d : Nat) (a0 a1 a2 a3 : AV) (S : St) : R N (d + 1) 248 [a0, a1, a2, a3] S = b248 (cfg N) (R N d) a0 a1 a2 a3 S := by unfold R; kernel_rfl
def s209_0 (C : Cfg) (run : RunT) (a0 : AV) (l : List AV) (S : St) : Option AOut :=
  pk (bin2 Tryz.prog .sub 3 ((gd l 1)) ((gd l 0))) S fun r1 =>
  pk (abin Tryz.prog .leq 3 r1 (AV.int .i64 12)) S fun r2 =>
  ifA r2
  (pe (callS run 240 [a0, (gd l 0), (gd l 1)] S) fun r3 S3 =>
  some (AOut.ret [(gd l 0), (gd l 1), (gd l 2), (gd l 3), (gd l 4)] S3))
  (pk (abin Tryz.prog .eql 3 ((gd l 2)) (AV.int .i64 0)) S fun r4 =>
  ifA r4
  (pe (callS run 241 [a0, (gd l 0), (gd l 1)] S) fun r5 S5 =>
  some (AOut.ret [(gd l 0), (gd l 1), (gd l 2), (gd l 3), (gd l 4)] S5))
  ((pk (aun .not ((gd l 3))) S fun r6 =>
  ifA r6
  (pe (callS run 242 [a0, (gd l 0), (gd l 1)] S) fun r7 S7 =>
  pk (abin Tryz.prog .sub 3 ((gd l 2)) (AV.int .i64 1)) S7 fun r8 =>
  some (AOut.norm [r8] S7))
  (some (AOut.norm [(gd l 2)] S))).bind fun
  | AOut.norm l9 S9 => (pq (call0 run 243 [a0, (gd l 0), (gd l 1)] S9) fun r10 =>
  pq (extA r10 0 S9) fun r11 =>
  pq (extA r10 1 S9) fun r12 =>
  (pk (abin Tryz.prog .eql 233 r12 (AV.int .i64 2)) S9 fun r13 =>
  ifA r13
  (pe (callS run 244 [a0, (gd l 0), (gd l 1)] S9) fun r14 S14 =>
  pk (abin Tryz.prog .sub 3 ((gd l 1)) (AV.int .i64 1)) S14 fun r15 =>
  pk (bin2 Tryz.prog .sub 3 r11 ((gd l 0))) S14 fun r16 =>
  pk (bin2 Tryz.prog .sub 3 r15 r16) S14 fun r17 =>
  some (AOut.norm [r17, AV.int .i64 1] S14))
  (some (AOut.norm [r11, r12] S9))).bind fun
  | AOut.norm l18 S18 => (((guardA ((gd l 3)) true
  (guardA ((gd l 4)) true
  (pk (abin Tryz.prog .eql 233 ((gd l18 1)) (AV.int .i64 1)) S18 fun r19 =>
  some (AOut.norm [r19] S18))
  (some (AOut.norm [AV.bool false] S18)))
  (some (AOut.norm [AV.bool false] S18))).bind fun
  | AOut.norm l20 S20 => (ifA ((gd l20 0))
  (pe (callS run 245 [a0, (gd l 0), (gd l 1)] S20) fun r21 S21 =>
  ifA r21
  (some (AOut.ret [] S21))
  (some (AOut.norm [] S21)))
  (some (AOut.norm [] S20)))
  | AOut.exit x20 l20 S20 => (some (AOut.exit x20 [] S20))
  | AOut.ret l20 S20 => (some (AOut.ret [] S20))).bind fun
  | AOut.norm l22 S22 => ((pk (abin Tryz.prog .gtr 3 ((gd l 0)) (AV.int .i64 0)) S22 fun r23 =>
  guardA r23 true
  (pk (abin Tryz.prog .sub 3 ((gd l 0)) (AV.int .i64 1)) S22 fun r24 =>
  pk (pindex 1 a0 r24 S22) S22 fun r25 =>
  pk (ld1 S22 r25) S22 fun r26 =>
  pk (pindex 1 a0 ((gd l18 0)) S22) S22 fun r27 =>
  pk (ld1 S22 r27) S22 fun r28 =>
  pq (call0 run 246 [r26, r28] S22) fun r29 =>
  pk (aun .not r29) S22 fun r30 =>
  ifA r30
  (pe (callS run 247 [a0, (gd l 0), (gd l 1), (gd l18 0)] S22) fun r31 S31 =>
  some (AOut.exit 1 [r31] S31))
  (some (AOut.norm [(gd l 0)] S22)))
  (some (AOut.norm [(gd l 0)] S22))).bind fun
  | AOut.norm l32 S32 => (pe (callS run 248 [a0, (gd l32 0), (gd l 1), (gd l18 0)] S32) fun r33 S33 =>
  pq (extA r33 0 S33) fun r34 =>
  pq (extA r33 1 S33) fun r35 =>
  pk (bin2 Tryz.prog .sub 3 r34 ((gd l32 0))) S33 fun r36 =>
  pk (bin2 Tryz.prog .sub 3 ((gd l 1)) r34) S33 fun r37 =>
  pk (abin Tryz.prog .quo 3 r1 (AV.int .i64 8)) S33 fun r38 =>
  pk (bin2 Tryz.prog .lss 3 r36 r37) S33 fun r39 =>
  ifA r39
  (pk (bin2 Tryz.prog .geq 3 r36 r38) S33 fun r40 =>
  pe (callS run 209 [a0, (gd l32 0), r34, (gd l9 0)] S33) fun r41 S41 =>
  pk (abin Tryz.prog .add 3 r34 (AV.int .i64 1)) S41 fun r42 =>
  some (AOut.norm [r42, (gd l 1), (gd l9 0), r40, r35] S41))
  (pk (bin2 Tryz.prog .geq 3 r37 r38) S33 fun r43 =>
  pk (abin Tryz.prog .add 3 r34 (AV.int .i64 1)) S33 fun r44 =>
  pe (callS run 209 [a0, r44, (gd l 1), (gd l9 0)] S33) fun r45 S45 =>
  some (AOut.norm [(gd l32 0), r34, (gd l9 0), r43, r35] S45)))
  | AOut.exit x32 l32 S32 => (if x32 = 1 then (some (AOut.norm [(gd l32 0), (gd l 1), (gd l9 0), (gd l 3), (gd l 4)] S32)) else (some (AOut.exit x32 [(gd l32 0), (gd l 1), (gd l9 0), (gd l 3), (gd l 4)] S32)))
  | AOut.ret l32 S32 => (some (AOut.ret [(gd l32 0), (gd l 1), (gd l9 0), (gd l 3), (gd l 4)] S32)))
  | AOut.exit x22 l22 S22 => (if x22 = 1 then (some (AOut.norm [(gd l 0), (gd l 1), (gd l9 0), (gd l 3), (gd l 4)] S22)) else (some (AOut.exit x22 [(gd l 0), (gd l 1), (gd l9 0), (gd l 3), (gd l 4)] S22)))
  | AOut.ret l22 S22 => (some (AOut.ret [(gd l 0), (gd l 1), (gd l9 0), (gd l 3), (gd l 4)] S22)))
  | AOut.exit x18 l18 S18 => (if x18 = 1 then (some (AOut.norm [(gd l 0), (gd l 1), (gd l9 0), (gd l 3), (gd l 4)] S18)) else (some (AOut.exit x18 [(gd l 0), (gd l 1), (gd l9 0), (gd l 3), (gd l 4)] S18)))
  | AOut.ret l18 S18 => (some (AOut.ret [(gd l 0), (gd l 1), (gd l9 0), (gd l 3), (gd l 4)] S18)))
  | AOut.exit x9 l9 S9 => (if x9 = 1 then (some (AOut.norm [(gd l 0), (gd l 1), (gd l9 0), (gd l 3), (gd l 4)] S9)) else (some (AOut.exit x9 [(gd l 0), (gd l 1), (gd l9 0), (gd l 3), (gd l 4)] S9)))
  | AOut.ret l9 S9 => (some (AOut.ret [(gd l 0), (gd l 1), (gd l9 0), (gd l 3), (gd l 4)] S9))))
def b209 (C : Cfg) (run : RunT) (a0 a1 a2 a3 : AV) (S : St) : OA :=
  (aloop (s209_0 C run a0) C.N [a1, a2, a3, AV.bool true, AV.bool true] S).bind fun
  | AOut.norm _ _ => (none)
  | AOut.exit x46 l46 S46 => (if x46 = 0 then (some (und, S46)) else (none))
  | AOut.ret l46 S46 => (some (und, S46))
theorem t209 (N d : Nat) (a0 a1 a2 a3 : AV) (S : St) : R N (d + 1) 209 [a0, a1, a2, a3] S = b209 (cfg N) (R N d) a0 a1 a2 a3 S := by unfold R; kernel_rfl
def b145 (C : Cfg) (run : RunT) (a0 : AV) (S : St) : OA :=
  pk (alen a0) S fun r1 =>
  pk (aconv Tryz.prog 3 208 r1 S) S fun r2 =>
  pq (call0 run 210 [r2] S) fun r3 =>
  pe (callS run 209 [a0, AV.int .i64 0, r1, r3] S) fun r4 S4 =>
  some (und, S4)
theorem t145 (N d : Nat) (a0 : AV) (S : St) : R N (d + 1) 145 [a0] S = b145 (cfg N) (R N d) a0 S := by unfold R; kernel_rfl
def s239_0 (C : Cfg) (run : RunT) (a0 : AV) (r11 : AV) (l12 : List AV) (S : St) : Option AOut :=
  pk (alen r11) S fun r13 =>
  pk (bin2 Tryz.prog .lss 3 ((gd l12 1)) r13) S fun r14 =>
  ifA r14
  ((pk (pindex 1 r11 ((gd l12 1)) S) S fun r15 =>
  pk (ld1 S r15) S fun r16 =>
  pk (abin Tryz.prog .sub 3 ((gd l12 1)) (AV.int .i64 1)) S fun r17 =>
  pk (pindex 1 r11 r17 S) S fun r18 =>
  pk (ld1 S r18) S fun r19 =>
  pk (bin2 Tryz.prog .neq 2 r16 r19) S fun r20 =>
  ifA r20
  (pk (pindex 1 r11 ((gd l12 1)) S) S fun r21 =>
  pk (ld1 S r21) S fun r22 =>
  pk (pindex 1 a0 ((gd l12 0)) S) S fun r23 =>
  pe (storeA 1 r23 r22 S) fun r24 S24 =>
  pk (abin Tryz.prog .add 3 ((gd l12 0)) (AV.int .i64 1)) S24 fun r25 =>
  some (AOut.norm [r25] S24))
  (some (AOut.norm [(gd l12 0)] S))).bind fun
  | AOut.norm l26 S26 => (pk (abin Tryz.prog .add 3 ((gd l12 1)) (AV.int .i64 1)) S26 fun r27 =>
  some (AOut.norm [(gd l26 0), r27] S26))
  | AOut.exit x26 l26 S26 => (some (AOut.exit x26 [(gd l26 0), (gd l12 1)] S26))
  | AOut.ret l26 S26 => (some (AOut.ret [(gd l26 0), (gd l12 1)] S26)))
  (some (AOut.exit 2 [(gd l12 0), (gd l12 1)] S))
def s239_1 (C : Cfg) (run : RunT) (a0 : AV) (l : List AV) (S : St) : Option AOut :=
  pk (alen a0) S fun r3 =>
  pk (bin2 Tryz.prog .lss 3 ((gd l 1)) r3) S fun r4 =>
  ifA r4
  (pk (pindex 1 a0 ((gd l 1)) S) S fun r5 =>
  pk (ld1 S r5) S fun r6 =>
  pk (abin Tryz.prog .sub 3 ((gd l 1)) (AV.int .i64 1)) S fun r7 =>
  pk (pindex 1 a0 r7 S) S fun r8 =>
  pk (ld1 S r8) S fun r9 =>
  pk (bin2 Tryz.prog .eql 2 r6 r9) S fun r10 =>
  ifA r10
  (pq (sliceA 1 a0 (some ((gd l 1))) none none S) fun r11 =>
  (aloop (s239_0 C run a0 r11) C.N [(gd l 1), AV.int .i64 1] S).bind fun
  | AOut.norm _ _ => (none)
  | AOut.exit x28 l28 S28 => (if x28 = 2 then (pq (sliceA 1 a0 (some ((gd l28 0))) none none S28) fun r29 =>
  pe (aclear Tryz.prog 22 r29 S28) fun r30 S30 =>
  pq (sliceA 1 a0 none (some ((gd l28 0))) none S30) fun r31 =>
  some (AOut.ret [r31, (gd l28 0)] S30)) else (if x28 = 1 then (pk (abin Tryz.prog .add 3 ((gd l28 0)) (AV.int .i64 1)) S28 fun r32 =>
  some (AOut.norm [(gd l 0), r32] S28)) else (some (AOut.exit x28 [(gd l 0), (gd l28 0)] S28))))
  | AOut.ret l28 S28 => (some (AOut.ret [(gd l 0), (gd l28 0)] S28)))
  (pk (abin Tryz.prog .add 3 ((gd l 1)) (AV.int .i64 1)) S fun r33 =>
  some (AOut.norm [(gd l 0), r33] S)))
  (some (AOut.exit 0 [(gd l 0), (gd l 1)] S))
def b239 (C : Cfg) (run : RunT) (a0 : AV) (S : St) : OA :=
  pk (alen a0) S fun r1 =>
  pk (abin Tryz.prog .lss 3 r1 (AV.int .i64 2)) S fun r2 =>
  ifA r2
  (some (a0, S))
  ((aloop (s239_1 C run a0) C.N [AV.rsl false true [], AV.int .i64 1] S).bind fun
  | AOut.norm _ _ => (none)
  | AOut.exit x34 l34 S34 => (if x34 = 0 then (some (a0, S34)) else (none))
  | AOut.ret l34 S34 => (some ((gd l34 0), S34)))
theorem t239 (N d : Nat) (a0 : AV) (S : St) : R N (d + 1) 239 [a0] S = b239 (cfg N) (R N d) a0 S := by unfold R; kernel_rfl
def s208_0 (C : Cfg) (run : RunT) (a0 : AV) (a1 : AV) (a2 : AV) (a3 : AV) (a4 : AV) (r2 : AV) (l : List AV) (S : St) : Option AOut :=
  pk (bin2 Tryz.prog .lss 3 ((gd l 1)) r2) S fun r3 =>
  ifA r3
  ((pk (pindex 7 a0 ((gd l 1)) S) S fun r4 =>
  pk (ldA S r4 7) S fun r5 =>
  pe (some (newBox S [AV.int .i64 0, AV.int .i64 0, AV.int .i64 0, AV.int .i64 0, AV.int .i64 0, AV.rsl false true [], AV.rsl false true []])) fun r6 S6 =>
  pe (storeA 7 r6 r5 S6) fun r7 S7 =>
  (pk (pfield r6 0 1) S7 fun r8 =>
  pk (ld1 S7 r8) S7 fun r9 =>
  pk (bin2 Tryz.prog .eql 2 r9 a1) S7 fun r10 =>
  guardA r10 true
  (pk (pfield r6 1 1) S7 fun r11 =>
  pk (ld1 S7 r11) S7 fun r12 =>
  pk (bin2 Tryz.prog .eql 2 r12 a2) S7 fun r13 =>
  guardA r13 true
  (pk (pfield r6 3 1) S7 fun r14 =>
  pk (ld1 S7 r14) S7 fun r15 =>
  pk (bin2 Tryz.prog .eql 2 r15 a3) S7 fun r16 =>
  guardA r16 true
  (pk (pfield r6 4 1) S7 fun r17 =>
  pk (ld1 S7 r17) S7 fun r18 =>
  pk (bin2 Tryz.prog .eql 2 r18 a4) S7 fun r19 =>
  some (AOut.norm [r19] S7))
  (some (AOut.norm [AV.bool false] S7)))
  (some (AOut.norm [AV.bool false] S7)))
  (some (AOut.norm [AV.bool false] S7))).bind fun
  | AOut.norm l20 S20 => (ifA ((gd l20 0))
  (pk (pfield r6 2 1) S20 fun r21 =>
  pk (ld1 S20 r21) S20 fun r22 =>
  pe (abuildS Tryz.prog 22 1 [(0, r22)] S20) fun r23 S23 =>
  pe (appA 1 8 ((gd l 0)) r23 S23) fun r24 S24 =>
  some (AOut.norm [r24] S24))
  (some (AOut.norm [(gd l 0)] S20)))
  | AOut.exit x20 l20 S20 => (if x20 = 1 then (some (AOut.norm [(gd l 0)] S20)) else (some (AOut.exit x20 [(gd l 0)] S20)))
  | AOut.ret l20 S20 => (some (AOut.ret [(gd l 0)] S20))).bind fun
  | AOut.norm l25 S25 => (pk (abin Tryz.prog .add 3 ((gd l 1)) (AV.int .i64 1)) S25 fun r26 =>
  some (AOut.norm [(gd l25 0), r26] S25))
  | AOut.exit x25 l25 S25 => (some (AOut.exit x25 [(gd l25 0), (gd l 1)] S25))
  | AOut.ret l25 S25 => (some (AOut.ret [(gd l25 0), (gd l 1)] S25)))
  (some (AOut.exit 0 [(gd l 0), (gd l 1)] S))
def b208 (C : Cfg) (run : RunT) (a0 a1 a2 a3 a4 : AV) (S : St) : OA :=
  pe (abuildS Tryz.prog 22 0 [] S) fun r1 S1 =>
  pk (alen a0) S1 fun r2 =>
  (aloop (s208_0 C run a0 a1 a2 a3 a4 r2) C.N [r1, AV.int .i64 0] S1).bind fun
  | AOut.norm _ _ => (none)
  | AOut.exit x27 l27 S27 => (if x27 = 0 then (pe (callS run 145 [(gd l27 0)] S27) fun r28 S28 =>
  pe (callS run 239 [(gd l27 0)] S28) fun r29 S29 =>
  some (r29, S29)) else (none))
  | AOut.ret l27 S27 => (some (AV.rsl false true [], S27))
theorem t208 (N d : Nat) (a0 a1 a2 a3 a4 : AV) (S : St) : R N (d + 1) 208 [a0, a1, a2, a3, a4] S = b208 (cfg N) (R N d) a0 a1 a2 a3 a4 S := by unfold R; kernel_rfl
def b144 (C : Cfg) (run : RunT) (a0 a1 a2 a3 a4 a5 : AV) (S : St) : OA :=
  pq (call0 run 208 [a1, a2, a3, a4, a5] S) fun r1 =>
  pk (alen r1) S fun r2 =>
  pk (abin Tryz.prog .mul 2 (AV.int .i64 2) a0) S fun r3 =>
  pk (abin Tryz.prog .add 2 r3 (AV.int .i64 1)) S fun r4 =>
  pk (bin2 Tryz.prog .geq 2 r2 r4) S fun r5 =>
  some (r5, S)
theorem t144 (N d : Nat) (a0 a1 a2 a3 a4 a5 : AV) (S : St) : R N (d + 1) 144 [a0, a1, a2, a3, a4, a5] S = b144 (cfg N) (R N d) a0 a1 a2 a3 a4 a5 S := by unfold R; kernel_rfl
def s77_0 (C : Cfg) (run : RunT) (a0 : AV) (a1 : AV) (a2 : AV) (r2 : AV) (l : List AV) (S : St) : Option AOut :=
  pk (bin2 Tryz.prog .lss 3 ((gd l 1)) r2) S fun r3 =>
  ifA r3
  ((pk (pindex 7 a1 ((gd l 1)) S) S fun r4 =>
  pk (ldA S r4 7) S fun r5 =>
  pe (some (newBox S [AV.int .i64 0, AV.int .i64 0, AV.int .i64 0, AV.int .i64 0, AV.int .i64 0, AV.rsl false true [], AV.rsl false true []])) fun r6 S6 =>
  pe (storeA 7 r6 r5 S6) fun r7 S7 =>
  (pk (pfield r6 0 1) S7 fun r8 =>
  pk (ld1 S7 r8) S7 fun r9 =>
  pk (abin Tryz.prog .eql 2 r9 (AV.int .i64 3)) S7 fun r10 =>
  guardA r10 true
  (pk (pfield r6 3 1) S7 fun r11 =>
  pk (ld1 S7 r11) S7 fun r12 =>
  pk (bin2 Tryz.prog .eql 2 r12 a2) S7 fun r13 =>
  guardA r13 true
  (pk (pfield r6 4 1) S7 fun r14 =>
  pk (ld1 S7 r14) S7 fun r15 =>
  pq (call0 run 92 [(gd l 0), r15] S7) fun r16 =>
  pk (aun .not r16) S7 fun r17 =>
  guardA r17 true
  (pk (pfield r6 1 1) S7 fun r18 =>
  pk (ld1 S7 r18) S7 fun r19 =>
  pk (pfield r6 4 1) S7 fun r20 =>
  pk (ld1 S7 r20) S7 fun r21 =>
  pq (call0 run 144 [a0, a1, AV.int .i64 3, r19, a2, r21] S7) fun r22 =>
  some (AOut.norm [r22] S7))
  (some (AOut.norm [AV.bool false] S7)))
  (some (AOut.norm [AV.bool false] S7)))
  (some (AOut.norm [AV.bool false] S7))).bind fun
  | AOut.norm l23 S23 => (ifA ((gd l23 0))
  (pk (pfield r6 4 1) S23 fun r24 =>
  pk (ld1 S23 r24) S23 fun r25 =>
  pe (abuildS Tryz.prog 22 1 [(0, r25)] S23) fun r26 S26 =>
  pe (appA 1 8 ((gd l 0)) r26 S26) fun r27 S27 =>
  some (AOut.norm [r27] S27))
  (some (AOut.norm [(gd l 0)] S23)))
  | AOut.exit x23 l23 S23 => (if x23 = 1 then (some (AOut.norm [(gd l 0)] S23)) else (some (AOut.exit x23 [(gd l 0)] S23)))
  | AOut.ret l23 S23 => (some (AOut.ret [(gd l 0)] S23))).bind fun
  | AOut.norm l28 S28 => (pk (abin Tryz.prog .add 3 ((gd l 1)) (AV.int .i64 1)) S28 fun r29 =>
  some (AOut.norm [(gd l28 0), r29] S28))
  | AOut.exit x28 l28 S28 => (some (AOut.exit x28 [(gd l28 0), (gd l 1)] S28))
  | AOut.ret l28 S28 => (some (AOut.ret [(gd l28 0), (gd l 1)] S28)))
  (some (AOut.exit 0 [(gd l 0), (gd l 1)] S))
def b77 (C : Cfg) (run : RunT) (a0 a1 a2 : AV) (S : St) : OA :=
  pe (abuildS Tryz.prog 22 0 [] S) fun r1 S1 =>
  pk (alen a1) S1 fun r2 =>
  (aloop (s77_0 C run a0 a1 a2 r2) C.N [r1, AV.int .i64 0] S1).bind fun
  | AOut.norm _ _ => (none)
  | AOut.exit x30 l30 S30 => (if x30 = 0 then (pe (callS run 145 [(gd l30 0)] S30) fun r31 S31 =>
  some ((gd l30 0), S31)) else (none))
  | AOut.ret l30 S30 => (some (AV.rsl false true [], S30))
theorem t77 (N d : Nat) (a0 a1 a2 : AV) (S : St) : R N (d + 1) 77 [a0, a1, a2] S = b77 (cfg N) (R N d) a0 a1 a2 S := by unfold R; kernel_rfl
def s68_0 (C : Cfg) (run : RunT) (a0 : AV) (a1 : AV) (l : List AV) (S : St) : Option AOut :=
  pk (abin Tryz.prog .leq 2 ((gd l 1)) (AV.int .i64 30)) S fun r2 =>
  ifA r2
  (pq (call0 run 77 [a0, a1, (gd l 1)] S) fun r3 =>
  pk (alen r3) S fun r4 =>
  pk (abin Tryz.prog .eql 3 r4 (AV.int .i64 0)) S fun r5 =>
  ifA r5
  (some (AOut.exit 0 [(gd l 0), (gd l 1)] S))
  (pk (pindex 1 r3 (AV.int .i64 0) S) S fun r6 =>
  pk (ld1 S r6) S fun r7 =>
  pe (abuildS Tryz.prog 22 1 [(0, r7)] S) fun r8 S8 =>
  pe (appA 1 8 ((gd l 0)) r8 S8) fun r9 S9 =>
  pk (abin Tryz.prog .add 2 ((gd l 1)) (AV.int .i64 1)) S9 fun r10 =>
  some (AOut.norm [r9, r10] S9)))
  (some (AOut.exit 0 [(gd l 0), (gd l 1)] S))
def b68 (C : Cfg) (run : RunT) (a0 a1 : AV) (S : St) : OA :=
  pe (abuildS Tryz.prog 22 0 [] S) fun r1 S1 =>
  (aloop (s68_0 C run a0 a1) C.N [r1, AV.int .i64 1] S1).bind fun
  | AOut.norm _ _ => (none)
  | AOut.exit x11 l11 S11 => (if x11 = 0 then (some ((gd l11 0), S11)) else (none))
  | AOut.ret l11 S11 => (some (AV.rsl false true [], S11))
theorem t68 (N d : Nat) (a0 a1 : AV) (S : St) : R N (d + 1) 68 [a0, a1] S = b68 (cfg N) (R N d) a0 a1 S := by unfold R; kernel_rfl
def b150 (C : Cfg) (run : RunT) (a0 a1 a2 : AV) (S : St) : OA :=
  pe (some (newBox S [AV.int .i64 0, AV.int .i64 0, AV.int .i64 0, AV.int .i64 0, AV.int .i64 0, AV.rsl false true [], AV.rsl false true []])) fun r1 S1 =>
  pk (alen a0) S1 fun r2 =>
  pk (abin Tryz.prog .sub 2 r2 (AV.int .i64 1)) S1 fun r3 =>
  pq (call0 run 132 [a1, AV.int .i64 0, r3] S1) fun r4 =>
  pk (aun .not r4) S1 fun r5 =>
  ifA r5
  (pk (abuild Tryz.prog 103 []) S1 fun r6 =>
  pe (storeA 7 r1 r6 S1) fun r7 S7 =>
  (res2 (ldA S7 r1 7) (some (AV.bool false))).map (·, S7))
  (pk (pindex 7 a0 a1 S1) S1 fun r8 =>
  pk (ldA S1 r8 7) S1 fun r9 =>
  pe (some (newBox S1 [AV.int .i64 0, AV.int .i64 0, AV.int .i64 0, AV.int .i64 0, AV.int .i64 0, AV.rsl false true [], AV.rsl false true []])) fun r10 S10 =>
  pe (storeA 7 r10 r9 S10) fun r11 S11 =>
  pk (ldA S11 r10 7) S11 fun r12 =>
  pk (pfield r10 0 1) S11 fun r13 =>
  pk (ld1 S11 r13) S11 fun r14 =>
  pk (bin2 Tryz.prog .eql 2 r14 a2) S11 fun r15 =>
  guardA r15 true
  (pk (pfield r10 1 1) S11 fun r16 =>
  pk (ld1 S11 r16) S11 fun r17 =>
  pk (abin Tryz.prog .gtr 2 r17 (AV.int .i64 0)) S11 fun r18 =>
  pe (storeA 7 r1 r12 S11) fun r19 S19 =>
  bif (apAV r16 r1 && true) then
  ((res2 (ldA S19 r1 7) (some r18)).map (·, S19))
  else (none))
  (pe (storeA 7 r1 r12 S11) fun r20 S20 =>
  bif (apAV und r1 && true) then
  ((res2 (ldA S20 r1 7) (some (AV.bool false))).map (·, S20))
  else (none)))
theorem t150 (N d : Nat) (a0 a1 a2 : AV) (S : St) : R N (d + 1) 150 [a0, a1, a2] S = b150 (cfg N) (R N d) a0 a1 a2 S := by unfold R; kernel_rfl
def b153 (C : Cfg) (run : RunT) (a0 a1 a2 : AV) (S : St) : OA :=
  pe (boxA a2 S) fun r1 S1 =>
  (pk (pfield r1 0 1) S1 fun r2 =>
  pk (ld1 S1 r2) S1 fun r3 =>
  pq (call0 run 192 [r3] S1) fun r4 =>
  guardA r4 true
  (pk (pfield r1 1 1) S1 fun r5 =>
  pk (ld1 S1 r5) S1 fun r6 =>
  pq (call0 run 131 [r6] S1) fun r7 =>
  guardA r7 true
  (pk (pfield r1 2 1) S1 fun r8 =>
  pk (ld1 S1 r8) S1 fun r9 =>
  pq (call0 run 193 [r9] S1) fun r10 =>
  guardA r10 true
  (pk (pfield r1 1 1) S1 fun r11 =>
  pk (ld1 S1 r11) S1 fun r12 =>
  pk (pfield r1 0 1) S1 fun r13 =>
  pk (ld1 S1 r13) S1 fun r14 =>
  pk (pfield r1 2 1) S1 fun r15 =>
  pk (ld1 S1 r15) S1 fun r16 =>
  pq (call0 run 144 [a0, a1, AV.int .i64 2, r12, r14, r16] S1) fun r17 =>
  some (AOut.norm [r17] S1))
  (some (AOut.norm [AV.bool false] S1)))
  (some (AOut.norm [AV.bool false] S1)))
  (some (AOut.norm [AV.bool false] S1))).bind fun
  | AOut.norm l18 S18 => (some ((gd l18 0), S18))
  | AOut.exit x18 l18 S18 => (none)
  | AOut.ret l18 S18 => (some ((gd l18 0), S18))
theorem t153 (N d : Nat) (a0 a1 a2 : AV) (S : St) : R N (d + 1) 153 [a0, a1, a2] S = b153 (cfg N) (R N d) a0 a1 a2 S := by unfold R; kernel_rfl
def b152 (C : Cfg) (run : RunT) (a0 a1 a2 : AV) (S : St) : OA :=
  pe (boxA a0 S) fun r1 S1 =>
  pk (ld1 S1 a1) S1 fun r2 =>
  pk (ld1 S1 a2) S1 fun r3 =>
  pk (ldA S1 r1 3) S1 fun r4 =>
  pq (call0 run 153 [r2, r3, r4] S1) fun r5 =>
  pk (aun .not r5) S1 fun r6 =>
  some (r6, S1)
theorem t152 (N d : Nat) (a0 a1 a2 : AV) (S : St) : R N (d + 1) 152 [a0, a1, a2] S = b152 (cfg N) (R N d) a0 a1 a2 S := by unfold R; kernel_rfl
def b83 (C : Cfg) (run : RunT) (a0 a1 a2 : AV) (S : St) : OA :=
  pe (boxA a0 S) fun r1 S1 =>
  pe (boxA a1 S1) fun r2 S2 =>
  pk (ld1 S2 r2) S2 fun r3 =>
  pe (callS run 150 [r3, a2, AV.int .i64 4] S2) fun r4 S4 =>
  pq (extA r4 0 S4) fun r5 =>
  pq (extA r4 1 S4) fun r6 =>
  pe (some (newBox S4 [AV.int .i64 0, AV.int .i64 0, AV.int .i64 0, AV.int .i64 0, AV.int .i64 0, AV.rsl false true [], AV.rsl false true []])) fun r7 S7 =>
  pe (storeA 7 r7 r5 S7) fun r8 S8 =>
  guardA r6 true
  (pk (pfield r7 5 1) S8 fun r9 =>
  pk (ld1 S8 r9) S8 fun r10 =>
  pq (call0 run 151 [r10, AV.fn 152 [r1, r2]] S8) fun r11 =>
  pk (aun .not r11) S8 fun r12 =>
  some (r12, S8))
  (some (AV.bool false, S8))
theorem t83 (N d : Nat) (a0 a1 a2 : AV) (S : St) : R N (d + 1) 83 [a0, a1, a2] S = b83 (cfg N) (R N d) a0 a1 a2 S := by unfold R; kernel_rfl
def b158 (C : Cfg) (run : RunT) (a0 a1 : AV) (S : St) : OA :=
  pq (call0 run 130 [a0] S) fun r1 =>
  pk (bin2 Tryz.prog .rem 2 a1 r1) S fun r2 =>
  pk (abin Tryz.prog .add 2 (AV.int .i64 1) r2) S fun r3 =>
  some (r3, S)
theorem t158 (N d : Nat) (a0 a1 : AV) (S : St) : R N (d + 1) 158 [a0, a1] S = b158 (cfg N) (R N d) a0 a1 S := by unfold R; kernel_rfl
def s133_0 (C : Cfg) (run : RunT) (a0 : AV) (a1 : AV) (r4 : AV) (r23 : AV) (r24 : AV) (l : List AV) (S : St) : Option AOut :=
  pk (bin2 Tryz.prog .lss 3 ((gd l 2)) r24) S fun r25 =>
  ifA r25
  ((pk (pindex 1 r23 ((gd l 2)) S) S fun r26 =>
  pk (ld1 S r26) S fun r27 =>
  ((pq (call0 run 83 [a0, a1, r27] S) fun r28 =>
  pk (aun .not r28) S fun r29 =>
  guardA r29 false
  (pk (pindex 7 a1 r27 S) S fun r30 =>
  pk (pfield r30 1 1) S fun r31 =>
  pk (ld1 S r31) S fun r32 =>
  pk (pfield r4 1 1) S fun r33 =>
  pk (ld1 S r33) S fun r34 =>
  pk (bin2 Tryz.prog .neq 2 r32 r34) S fun r35 =>
  guardA r35 false
  (pk (pindex 7 a1 r27 S) S fun r36 =>
  pk (pfield r36 2 1) S fun r37 =>
  pk (ld1 S r37) S fun r38 =>
  pq (call0 run 92 [(gd l 1), r38] S) fun r39 =>
  some (AOut.norm [r39] S))
  (some (AOut.norm [AV.bool true] S)))
  (some (AOut.norm [AV.bool true] S))).bind fun
  | AOut.norm l40 S40 => (ifA ((gd l40 0))
  (some (AOut.ret [AV.bool false] S40))
  (some (AOut.norm [(gd l 0)] S40)))
  | AOut.exit x40 l40 S40 => (some (AOut.exit x40 [(gd l 0)] S40))
  | AOut.ret l40 S40 => (some (AOut.ret [(gd l 0)] S40))).bind fun
  | AOut.norm l41 S41 => (pk (pindex 7 a1 r27 S41) S41 fun r42 =>
  pk (pfield r42 2 1) S41 fun r43 =>
  pk (ld1 S41 r43) S41 fun r44 =>
  pe (abuildS Tryz.prog 22 1 [(0, r44)] S41) fun r45 S45 =>
  pe (appA 1 8 ((gd l 1)) r45 S45) fun r46 S46 =>
  some (AOut.norm [(gd l41 0), r46] S46))
  | AOut.exit x41 l41 S41 => (if x41 = 1 then (some (AOut.norm [(gd l41 0), (gd l 1)] S41)) else (some (AOut.exit x41 [(gd l41 0), (gd l 1)] S41)))
  | AOut.ret l41 S41 => (some (AOut.ret [(gd l41 0), (gd l 1)] S41))).bind fun
  | AOut.norm l47 S47 => (pk (abin Tryz.prog .add 3 ((gd l 2)) (AV.int .i64 1)) S47 fun r48 =>
  some (AOut.norm [(gd l47 0), (gd l47 1), r48] S47))
  | AOut.exit x47 l47 S47 => (some (AOut.exit x47 [(gd l47 0), (gd l47 1), (gd l 2)] S47))
  | AOut.ret l47 S47 => (some (AOut.ret [(gd l47 0), (gd l47 1), (gd l 2)] S47)))
  (some (AOut.exit 0 [(gd l 0), (gd l 1), (gd l 2)] S))
def b133 (C : Cfg) (run : RunT) (a0 a1 a2 : AV) (S : St) : OA :=
  pe (callS run 150 [a1, a2, AV.int .i64 5] S) fun r1 S1 =>
  pq (extA r1 0 S1) fun r2 =>
  pq (extA r1 1 S1) fun r3 =>
  pe (some (newBox S1 [AV.int .i64 0, AV.int .i64 0, AV.int .i64 0, AV.int .i64 0, AV.int .i64 0, AV.rsl false true [], AV.rsl false true []])) fun r4 S4 =>
  pe (storeA 7 r4 r2 S4) fun r5 S5 =>
  ((pk (aun .not r3) S5 fun r6 =>
  guardA r6 false
  (pk (pfield r4 2 1) S5 fun r7 =>
  pk (ld1 S5 r7) S5 fun r8 =>
  pk (pfield r4 1 1) S5 fun r9 =>
  pk (ld1 S5 r9) S5 fun r10 =>
  pq (call0 run 158 [a0, r10] S5) fun r11 =>
  pk (bin2 Tryz.prog .neq 2 r8 r11) S5 fun r12 =>
  guardA r12 false
  (pk (pfield r4 6 1) S5 fun r13 =>
  pk (ld1 S5 r13) S5 fun r14 =>
  pk (alen r14) S5 fun r15 =>
  pk (abin Tryz.prog .mul 2 (AV.int .i64 2) a0) S5 fun r16 =>
  pk (abin Tryz.prog .add 2 r16 (AV.int .i64 1)) S5 fun r17 =>
  pk (bin2 Tryz.prog .lss 2 r15 r17) S5 fun r18 =>
  some (AOut.norm [r18] S5))
  (some (AOut.norm [AV.bool true] S5)))
  (some (AOut.norm [AV.bool true] S5))).bind fun
  | AOut.norm l19 S19 => (ifA ((gd l19 0))
  (some (AOut.ret [AV.bool false] S19))
  (some (AOut.norm [AV.bool false] S19)))
  | AOut.exit x19 l19 S19 => (some (AOut.exit x19 [AV.bool false] S19))
  | AOut.ret l19 S19 => (some (AOut.ret [AV.bool false] S19))).bind fun
  | AOut.norm l20 S20 => (pe (abuildS Tryz.prog 22 0 [] S20) fun r21 S21 =>
  pk (pfield r4 6 1) S21 fun r22 =>
  pk (ld1 S21 r22) S21 fun r23 =>
  pk (alen r23) S21 fun r24 =>
  (aloop (s133_0 C run a0 a1 r4 r23 r24) C.N [(gd l20 0), r21, AV.int .i64 0] S21).bind fun
  | AOut.norm _ _ => (none)
  | AOut.exit x49 l49 S49 => (if x49 = 0 then (some (AV.bool true, S49)) else (none))
  | AOut.ret l49 S49 => (some ((gd l49 0), S49)))
  | AOut.exit x20 l20 S20 => (none)
  | AOut.ret l20 S20 => (some ((gd l20 0), S20))
theorem t133 (N d : Nat) (a0 a1 a2 : AV) (S : St) : R N (d + 1) 133 [a0, a1, a2] S = b133 (cfg N) (R N d) a0 a1 a2 S := by unfold R; kernel_rfl
def b69 (C : Cfg) (run : RunT) (a0 a1 a2 a3 : AV) (S : St) : OA :=
  pe (boxA a2 S) fun r1 S1 =>
  ((pk (pfield r1 0 1) S1 fun r2 =>
  pk (ld1 S1 r2) S1 fun r3 =>
  pq (call0 run 129 [a0, r3] S1) fun r4 =>
  pk (aun .not r4) S1 fun r5 =>
  guardA r5 false
  (pk (pfield r1 1 1) S1 fun r6 =>
  pk (ld1 S1 r6) S1 fun r7 =>
  pq (call0 run 131 [r7] S1) fun r8 =>
  pk (aun .not r8) S1 fun r9 =>
  guardA r9 false
  (pk (pfield r1 3 1) S1 fun r10 =>
  pk (ld1 S1 r10) S1 fun r11 =>
  pq (call0 run 132 [r11, AV.int .i64 0, AV.int .i64 30] S1) fun r12 =>
  pk (aun .not r12) S1 fun r13 =>
  some (AOut.norm [r13] S1))
  (some (AOut.norm [AV.bool true] S1)))
  (some (AOut.norm [AV.bool true] S1))).bind fun
  | AOut.norm l14 S14 => (ifA ((gd l14 0))
  (some (AOut.ret [AV.int .i64 3] S14))
  ((pk (pfield r1 2 1) S14 fun r15 =>
  pk (ld1 S14 r15) S14 fun r16 =>
  pk (abin Tryz.prog .neq 2 r16 (AV.int .i64 (-1))) S14 fun r17 =>
  guardA r17 true
  (pk (pfield r1 1 1) S14 fun r18 =>
  pk (ld1 S14 r18) S14 fun r19 =>
  pk (abin Tryz.prog .eql 2 r19 (AV.int .i64 0)) S14 fun r20 =>
  guardA r20 false
  (pk (pfield r1 2 1) S14 fun r21 =>
  pk (ld1 S14 r21) S14 fun r22 =>
  pq (call0 run 133 [a0, a1, r22] S14) fun r23 =>
  pk (aun .not r23) S14 fun r24 =>
  guardA r24 false
  (pk (pfield r1 2 1) S14 fun r25 =>
  pk (ld1 S14 r25) S14 fun r26 =>
  pk (pindex 7 a1 r26 S14) S14 fun r27 =>
  pk (pfield r27 1 1) S14 fun r28 =>
  pk (ld1 S14 r28) S14 fun r29 =>
  pk (pfield r1 1 1) S14 fun r30 =>
  pk (ld1 S14 r30) S14 fun r31 =>
  pk (bin2 Tryz.prog .neq 2 r29 r31) S14 fun r32 =>
  some (AOut.norm [r32] S14))
  (some (AOut.norm [AV.bool true] S14)))
  (some (AOut.norm [AV.bool true] S14)))
  (some (AOut.norm [AV.bool false] S14))).bind fun
  | AOut.norm l33 S33 => (ifA ((gd l33 0))
  (some (AOut.ret [AV.int .i64 1] S33))
  (pk (pfield r1 3 1) S33 fun r34 =>
  pk (ld1 S33 r34) S33 fun r35 =>
  pk (bin2 Tryz.prog .gtr 2 r35 a3) S33 fun r36 =>
  ifA r36
  (some (AOut.ret [AV.int .i64 8] S33))
  (some (AOut.norm [AV.int .i64 0] S33))))
  | AOut.exit x33 l33 S33 => (if x33 = 0 then (some (AOut.norm [AV.int .i64 0] S33)) else (some (AOut.exit x33 [AV.int .i64 0] S33)))
  | AOut.ret l33 S33 => (some (AOut.ret [AV.int .i64 0] S33))))
  | AOut.exit x14 l14 S14 => (if x14 = 0 then (some (AOut.norm [AV.int .i64 0] S14)) else (some (AOut.exit x14 [AV.int .i64 0] S14)))
  | AOut.ret l14 S14 => (some (AOut.ret [AV.int .i64 0] S14))).bind fun
  | AOut.norm l37 S37 => (some (AV.int .i64 0, S37))
  | AOut.exit x37 l37 S37 => (none)
  | AOut.ret l37 S37 => (some ((gd l37 0), S37))
theorem t69 (N d : Nat) (a0 a1 a2 a3 : AV) (S : St) : R N (d + 1) 69 [a0, a1, a2, a3] S = b69 (cfg N) (R N d) a0 a1 a2 a3 S := by unfold R; kernel_rfl
def b134 (C : Cfg) (run : RunT) (a0 : AV) (S : St) : OA :=
  pq (call0 run 132 [a0, AV.int .i64 1, AV.int .i64 9] S) fun r1 =>
  some (r1, S)
theorem t134 (N d : Nat) (a0 : AV) (S : St) : R N (d + 1) 134 [a0] S = b134 (cfg N) (R N d) a0 S := by unfold R; kernel_rfl
def b135 (C : Cfg) (run : RunT) (a0 : AV) (S : St) : OA :=
  pq (call0 run 132 [a0, AV.int .i64 0, AV.int .i64 9000] S) fun r1 =>
  some (r1, S)
theorem t135 (N d : Nat) (a0 : AV) (S : St) : R N (d + 1) 135 [a0] S = b135 (cfg N) (R N d) a0 S := by unfold R; kernel_rfl
def b200 (C : Cfg) (run : RunT) (a0 : AV) (S : St) : OA :=
  pk (abin Tryz.prog .eql 2 a0 (AV.int .i64 1)) S fun r1 =>
  ifA r1
  (some (AV.tup [AV.str ⟨#[111, 112, 101, 110]⟩, AV.str ⟨#[]⟩], S))
  (pk (abin Tryz.prog .eql 2 a0 (AV.int .i64 2)) S fun r2 =>
  ifA r2
  (some (AV.tup [AV.str ⟨#[99, 108, 111, 115, 101]⟩, AV.str ⟨#[]⟩], S))
  (pk (abin Tryz.prog .eql 2 a0 (AV.int .i64 3)) S fun r3 =>
  ifA r3
  (some (AV.tup [AV.str ⟨#[99, 114, 101, 97, 116, 101]⟩, AV.str ⟨#[112, 100, 115, 111]⟩], S))
  (pk (abin Tryz.prog .eql 2 a0 (AV.int .i64 4)) S fun r4 =>
  ifA r4
  (some (AV.tup [AV.str ⟨#[100, 101, 108, 101, 116, 101]⟩, AV.str ⟨#[112, 118]⟩], S))
  (pk (abin Tryz.prog .eql 2 a0 (AV.int .i64 5)) S fun r5 =>
  ifA r5
  (some (AV.tup [AV.str ⟨#[115, 101, 116]⟩, AV.str ⟨#[112, 100, 118]⟩], S))
  (pk (abin Tryz.prog .eql 2 a0 (AV.int .i64 6)) S fun r6 =>
  ifA r6
  (some (AV.tup [AV.str ⟨#[103, 101, 116]⟩, AV.str ⟨#[112]⟩], S))
  (pk (abin Tryz.prog .eql 2 a0 (AV.int .i64 7)) S fun r7 =>
  ifA r7
  (some (AV.tup [AV.str ⟨#[107, 105, 100, 115]⟩, AV.str ⟨#[112]⟩], S))
  (pk (abin Tryz.prog .eql 2 a0 (AV.int .i64 8)) S fun r8 =>
  ifA r8
  (some (AV.tup [AV.str ⟨#[99, 104, 101, 99, 107]⟩, AV.str ⟨#[112, 118]⟩], S))
  (some (AV.tup [AV.str ⟨#[]⟩, AV.str ⟨#[]⟩], S)))))))))
theorem t200 (N d : Nat) (a0 : AV) (S : St) : R N (d + 1) 200 [a0] S = b200 (cfg N) (R N d) a0 S := by unfold R; kernel_rfl
theorem t234 (N d : Nat) (a0 a1 : AV) (S : St) : R N (d + 1) 234 [a0, a1] S = extSB ext234 [a0, a1] S := by unfold R; kernel_rfl
def b202 (C : Cfg) (run : RunT) (a0 a1 : AV) (S : St) : OA :=
  pq (call0 run 234 [a0, a1] S) fun r1 =>
  pk (abin Tryz.prog .geq 3 r1 (AV.int .i64 0)) S fun r2 =>
  some (r2, S)
theorem t202 (N d : Nat) (a0 a1 : AV) (S : St) : R N (d + 1) 202 [a0, a1] S = b202 (cfg N) (R N d) a0 a1 S := by unfold R; kernel_rfl
def b201 (C : Cfg) (run : RunT) (a0 a1 : AV) (S : St) : OA :=
  pk (ld1 S a1) S fun r1 =>
  pq (call0 run 202 [r1, a0] S) fun r2 =>
  pk (aun .not r2) S fun r3 =>
  some (r3, S)
theorem t201 (N d : Nat) (a0 a1 : AV) (S : St) : R N (d + 1) 201 [a0, a1] S = b201 (cfg N) (R N d) a0 a1 S := by unfold R; kernel_rfl
theorem t235 (N d : Nat) (a0 a1 : AV) (S : St) : R N (d + 1) 235 [a0, a1] S = extSB ext235 [a0, a1] S := by unfold R; kernel_rfl
def s264_0 (C : Cfg) (run : RunT) (a1 : AV) (a2 : AV) (r11 : AV) (r12 : AV) (l : List AV) (S : St) : Option AOut :=
  pk (bin2 Tryz.prog .lss 3 ((gd l 1)) r12) S fun r13 =>
  ifA r13
  (pq (call0 run 234 [(gd l 0), a1] S) fun r14 =>
  pk (abin Tryz.prog .lss 3 r14 (AV.int .i64 0)) S fun r15 =>
  ifA r15
  (some (AOut.exit 0 [(gd l 0), (gd l 1)] S))
  (pk (bin2 Tryz.prog .add 3 r14 a2) S fun r16 =>
  pq (sliceS ((gd l 0)) none (some r16) none S) fun r17 =>
  pk (pindex 1 r11 ((gd l 1)) S) S fun r18 =>
  pe (storeA 1 r18 r17 S) fun r19 S19 =>
  pk (slen a1) S19 fun r20 =>
  pk (bin2 Tryz.prog .add 3 r14 r20) S19 fun r21 =>
  pq (sliceS ((gd l 0)) (some r21) none none S19) fun r22 =>
  pk (abin Tryz.prog .add 3 ((gd l 1)) (AV.int .i64 1)) S19 fun r23 =>
  some (AOut.norm [r22, r23] S19)))
  (some (AOut.exit 0 [(gd l 0), (gd l 1)] S))
def b264 (C : Cfg) (run : RunT) (a0 a1 a2 a3 : AV) (S : St) : OA :=
  pk (abin Tryz.prog .eql 3 a3 (AV.int .i64 0)) S fun r1 =>
  ifA r1
  (some (AV.rsl false true [], S))
  (pk (abin Tryz.prog .eql 9 a1 (AV.str ⟨#[]⟩)) S fun r2 =>
  ifA r2
  (pq (call0 run 283 [a0, a3] S) fun r3 =>
  some (r3, S))
  ((pk (abin Tryz.prog .lss 3 a3 (AV.int .i64 0)) S fun r4 =>
  ifA r4
  (pq (call0 run 235 [a0, a1] S) fun r5 =>
  pk (abin Tryz.prog .add 3 r5 (AV.int .i64 1)) S fun r6 =>
  some (AOut.norm [r6] S))
  (some (AOut.norm [a3] S))).bind fun
  | AOut.norm l7 S7 => (pk (slen a0) S7 fun r8 =>
  pk (abin Tryz.prog .add 3 r8 (AV.int .i64 1)) S7 fun r9 =>
  pk (amax true [(gd l7 0), r9]) S7 fun r10 =>
  pe (amake Tryz.prog 181 r10 r10 S7) fun r11 S11 =>
  pk (abin Tryz.prog .sub 3 r10 (AV.int .i64 1)) S11 fun r12 =>
  (aloop (s264_0 C run a1 a2 r11 r12) C.N [a0, AV.int .i64 0] S11).bind fun
  | AOut.norm _ _ => (none)
  | AOut.exit x24 l24 S24 => (if x24 = 0 then (pk (pindex 1 r11 ((gd l24 1)) S24) S24 fun r25 =>
  pe (storeA 1 r25 ((gd l24 0)) S24) fun r26 S26 =>
  pk (abin Tryz.prog .add 3 ((gd l24 1)) (AV.int .i64 1)) S26 fun r27 =>
  pq (sliceA 1 r11 none (some r27) none S26) fun r28 =>
  some (r28, S26)) else (none))
  | AOut.ret l24 S24 => (some (AV.rsl false true [], S24)))
  | AOut.exit x7 l7 S7 => (none)
  | AOut.ret l7 S7 => (some (AV.rsl false true [], S7))))
theorem t264 (N d : Nat) (a0 a1 a2 a3 : AV) (S : St) : R N (d + 1) 264 [a0, a1, a2, a3] S = b264 (cfg N) (R N d) a0 a1 a2 a3 S := by unfold R; kernel_rfl
def b236 (C : Cfg) (run : RunT) (a0 a1 : AV) (S : St) : OA :=
  pq (call0 run 264 [a0, a1, AV.int .i64 0, AV.int .i64 (-1)] S) fun r1 =>
  some (r1, S)
theorem t236 (N d : Nat) (a0 a1 : AV) (S : St) : R N (d + 1) 236 [a0, a1] S = b236 (cfg N) (R N d) a0 a1 S := by unfold R; kernel_rfl
def s237_0 (C : Cfg) (run : RunT) (a0 : AV) (r1 : AV) (l : List AV) (S : St) : Option AOut :=
  pk (bin2 Tryz.prog .lss 3 ((gd l 1)) r1) S fun r2 =>
  ifA r2
  (((pk (sindex a0 ((gd l 1))) S fun r3 =>
  pk (abin Tryz.prog .lss 5 r3 (AV.int .u8 97)) S fun r4 =>
  guardA r4 false
  (pk (sindex a0 ((gd l 1))) S fun r5 =>
  pk (abin Tryz.prog .gtr 5 r5 (AV.int .u8 122)) S fun r6 =>
  guardA r6 true
  (pk (sindex a0 ((gd l 1))) S fun r7 =>
  pk (abin Tryz.prog .lss 5 r7 (AV.int .u8 48)) S fun r8 =>
  guardA r8 false
  (pk (sindex a0 ((gd l 1))) S fun r9 =>
  pk (abin Tryz.prog .gtr 5 r9 (AV.int .u8 57)) S fun r10 =>
  some (AOut.norm [r10] S))
  (some (AOut.norm [AV.bool true] S)))
  (some (AOut.norm [AV.bool false] S)))
  (pk (sindex a0 ((gd l 1))) S fun r11 =>
  pk (abin Tryz.prog .lss 5 r11 (AV.int .u8 48)) S fun r12 =>
  guardA r12 false
  (pk (sindex a0 ((gd l 1))) S fun r13 =>
  pk (abin Tryz.prog .gtr 5 r13 (AV.int .u8 57)) S fun r14 =>
  some (AOut.norm [r14] S))
  (some (AOut.norm [AV.bool true] S)))).bind fun
  | AOut.norm l15 S15 => (ifA ((gd l15 0))
  (some (AOut.ret [AV.bool false] S15))
  (some (AOut.norm [(gd l 0)] S15)))
  | AOut.exit x15 l15 S15 => (if x15 = 1 then (some (AOut.norm [(gd l 0)] S15)) else (some (AOut.exit x15 [(gd l 0)] S15)))
  | AOut.ret l15 S15 => (some (AOut.ret [(gd l 0)] S15))).bind fun
  | AOut.norm l16 S16 => (pk (abin Tryz.prog .add 3 ((gd l 1)) (AV.int .i64 1)) S16 fun r17 =>
  some (AOut.norm [(gd l16 0), r17] S16))
  | AOut.exit x16 l16 S16 => (some (AOut.exit x16 [(gd l16 0), (gd l 1)] S16))
  | AOut.ret l16 S16 => (some (AOut.ret [(gd l16 0), (gd l 1)] S16)))
  (some (AOut.exit 0 [(gd l 0), (gd l 1)] S))
def b237 (C : Cfg) (run : RunT) (a0 : AV) (S : St) : OA :=
  pk (slen a0) S fun r1 =>
  (aloop (s237_0 C run a0 r1) C.N [AV.bool false, AV.int .i64 0] S).bind fun
  | AOut.norm _ _ => (none)
  | AOut.exit x18 l18 S18 => (if x18 = 0 then (pk (slen a0) S18 fun r19 =>
  pq (call0 run 132 [r19, AV.int .i64 1, AV.int .i64 8] S18) fun r20 =>
  some (r20, S18)) else (none))
  | AOut.ret l18 S18 => (some ((gd l18 0), S18))
theorem t237 (N d : Nat) (a0 : AV) (S : St) : R N (d + 1) 237 [a0] S = b237 (cfg N) (R N d) a0 S := by unfold R; kernel_rfl
def s203_0 (C : Cfg) (run : RunT) (r14 : AV) (r15 : AV) (l : List AV) (S : St) : Option AOut :=
  pk (bin2 Tryz.prog .lss 3 ((gd l 1)) r15) S fun r16 =>
  ifA r16
  (pk (pindex 1 r14 ((gd l 1)) S) S fun r17 =>
  pk (ld1 S r17) S fun r18 =>
  pq (call0 run 237 [r18] S) fun r19 =>
  pk (aun .not r19) S fun r20 =>
  ifA r20
  (some (AOut.ret [AV.int .i64 5, (gd l 1)] S))
  (pk (abin Tryz.prog .add 3 ((gd l 1)) (AV.int .i64 1)) S fun r21 =>
  some (AOut.norm [(gd l 0), r21] S)))
  (some (AOut.exit 0 [(gd l 0), (gd l 1)] S))
def b203 (C : Cfg) (run : RunT) (a0 : AV) (S : St) : OA :=
  (pk (slen a0) S fun r1 =>
  pk (abin Tryz.prog .gtr 3 r1 (AV.int .i64 24)) S fun r2 =>
  guardA r2 false
  (pq (call0 run 235 [a0, AV.str ⟨#[47]⟩] S) fun r3 =>
  pk (abin Tryz.prog .gtr 3 r3 (AV.int .i64 4)) S fun r4 =>
  ifA r4
  (some (AOut.ret [AV.int .i64 2] S))
  (some (AOut.norm [AV.int .i64 0] S)))
  (some (AOut.ret [AV.int .i64 2] S))).bind fun
  | AOut.norm l5 S5 => (pk (abin Tryz.prog .eql 9 a0 (AV.str ⟨#[47]⟩)) S5 fun r6 =>
  ifA r6
  (some (AV.int .i64 0, S5))
  (pq (call0 run 236 [a0, AV.str ⟨#[47]⟩] S5) fun r7 =>
  (pk (alen r7) S5 fun r8 =>
  pk (abin Tryz.prog .lss 3 r8 (AV.int .i64 2)) S5 fun r9 =>
  guardA r9 false
  (pk (pindex 1 r7 (AV.int .i64 0) S5) S5 fun r10 =>
  pk (ld1 S5 r10) S5 fun r11 =>
  pk (abin Tryz.prog .neq 9 r11 (AV.str ⟨#[]⟩)) S5 fun r12 =>
  ifA r12
  (some (AOut.ret [AV.int .i64 5] S5))
  (some (AOut.norm [(gd l5 0)] S5)))
  (some (AOut.ret [AV.int .i64 5] S5))).bind fun
  | AOut.norm l13 S13 => (pq (sliceA 1 r7 (some (AV.int .i64 1)) none none S13) fun r14 =>
  pk (alen r14) S13 fun r15 =>
  (aloop (s203_0 C run r14 r15) C.N [(gd l13 0), AV.int .i64 0] S13).bind fun
  | AOut.norm _ _ => (none)
  | AOut.exit x22 l22 S22 => (if x22 = 0 then (some (AV.int .i64 0, S22)) else (none))
  | AOut.ret l22 S22 => (some ((gd l22 0), S22)))
  | AOut.exit x13 l13 S13 => (none)
  | AOut.ret l13 S13 => (some ((gd l13 0), S13))))
  | AOut.exit x5 l5 S5 => (none)
  | AOut.ret l5 S5 => (some ((gd l5 0), S5))
theorem t203 (N d : Nat) (a0 : AV) (S : St) : R N (d + 1) 203 [a0] S = b203 (cfg N) (R N d) a0 S := by unfold R; kernel_rfl
def b204 (C : Cfg) (run : RunT) (a0 : AV) (S : St) : OA :=
  pq (call0 run 132 [a0, AV.int .i64 0, AV.int .i64 9999] S) fun r1 =>
  some (r1, S)
theorem t204 (N d : Nat) (a0 : AV) (S : St) : R N (d + 1) 204 [a0] S = b204 (cfg N) (R N d) a0 S := by unfold R; kernel_rfl
def b136 (C : Cfg) (run : RunT) (a0 : AV) (S : St) : OA :=
  pe (boxA a0 S) fun r1 S1 =>
  pk (pfield r1 0 1) S1 fun r2 =>
  pk (ld1 S1 r2) S1 fun r3 =>
  pq (call0 run 200 [r3] S1) fun r4 =>
  pq (extA r4 0 S1) fun r5 =>
  pq (extA r4 1 S1) fun r6 =>
  pe (some (newBox S1 [AV.str ⟨#[]⟩])) fun r7 S7 =>
  pe (storeA 1 r7 r6 S7) fun r8 S8 =>
  ((pk (pfield r1 0 1) S8 fun r9 =>
  pk (ld1 S8 r9) S8 fun r10 =>
  pq (call0 run 132 [r10, AV.int .i64 1, AV.int .i64 8] S8) fun r11 =>
  pk (aun .not r11) S8 fun r12 =>
  guardA r12 false
  (pe (callV C run 136 (AV.fn 201 [r7]) [AV.str ⟨#[112]⟩] S8) fun r13 S13 =>
  guardA r13 true
  (pk (pfield r1 1 1) S13 fun r14 =>
  pk (ld1 S13 r14) S13 fun r15 =>
  pk (abin Tryz.prog .neq 9 r15 (AV.str ⟨#[]⟩)) S13 fun r16 =>
  guardA r16 false
  (pe (callV C run 136 (AV.fn 201 [r7]) [AV.str ⟨#[100]⟩] S13) fun r17 S17 =>
  guardA r17 true
  (pk (pfield r1 2 1) S17 fun r18 =>
  pk (ld1 S17 r18) S17 fun r19 =>
  pk (abin Tryz.prog .neq 2 r19 (AV.int .i64 0)) S17 fun r20 =>
  guardA r20 false
  (pe (callV C run 136 (AV.fn 201 [r7]) [AV.str ⟨#[118]⟩] S17) fun r21 S21 =>
  guardA r21 true
  (pk (pfield r1 3 1) S21 fun r22 =>
  pk (ld1 S21 r22) S21 fun r23 =>
  pk (abin Tryz.prog .neq 2 r23 (AV.int .i64 0)) S21 fun r24 =>
  guardA r24 false
  (pe (callV C run 136 (AV.fn 201 [r7]) [AV.str ⟨#[115]⟩] S21) fun r25 S25 =>
  guardA r25 true
  (pk (pfield r1 4 1) S25 fun r26 =>
  pk (ld1 S25 r26) S25 fun r27 =>
  guardA r27 false
  (pe (callV C run 136 (AV.fn 201 [r7]) [AV.str ⟨#[111]⟩] S25) fun r28 S28 =>
  guardA r28 true
  (pk (pfield r1 5 1) S28 fun r29 =>
  pk (ld1 S28 r29) S28 fun r30 =>
  some (AOut.norm [r30] S28))
  (some (AOut.norm [AV.bool false] S28)))
  (some (AOut.norm [AV.bool true] S25)))
  (pe (callV C run 136 (AV.fn 201 [r7]) [AV.str ⟨#[111]⟩] S25) fun r31 S31 =>
  guardA r31 true
  (pk (pfield r1 5 1) S31 fun r32 =>
  pk (ld1 S31 r32) S31 fun r33 =>
  some (AOut.norm [r33] S31))
  (some (AOut.norm [AV.bool false] S31))))
  (some (AOut.norm [AV.bool true] S21)))
  (pe (callV C run 136 (AV.fn 201 [r7]) [AV.str ⟨#[115]⟩] S21) fun r34 S34 =>
  guardA r34 true
  (pk (pfield r1 4 1) S34 fun r35 =>
  pk (ld1 S34 r35) S34 fun r36 =>
  guardA r36 false
  (pe (callV C run 136 (AV.fn 201 [r7]) [AV.str ⟨#[111]⟩] S34) fun r37 S37 =>
  guardA r37 true
  (pk (pfield r1 5 1) S37 fun r38 =>
  pk (ld1 S37 r38) S37 fun r39 =>
  some (AOut.norm [r39] S37))
  (some (AOut.norm [AV.bool false] S37)))
  (some (AOut.norm [AV.bool true] S34)))
  (pe (callV C run 136 (AV.fn 201 [r7]) [AV.str ⟨#[111]⟩] S34) fun r40 S40 =>
  guardA r40 true
  (pk (pfield r1 5 1) S40 fun r41 =>
  pk (ld1 S40 r41) S40 fun r42 =>
  some (AOut.norm [r42] S40))
  (some (AOut.norm [AV.bool false] S40)))))
  (some (AOut.norm [AV.bool true] S17)))
  (pe (callV C run 136 (AV.fn 201 [r7]) [AV.str ⟨#[118]⟩] S17) fun r43 S43 =>
  guardA r43 true
  (pk (pfield r1 3 1) S43 fun r44 =>
  pk (ld1 S43 r44) S43 fun r45 =>
  pk (abin Tryz.prog .neq 2 r45 (AV.int .i64 0)) S43 fun r46 =>
  guardA r46 false
  (pe (callV C run 136 (AV.fn 201 [r7]) [AV.str ⟨#[115]⟩] S43) fun r47 S47 =>
  guardA r47 true
  (pk (pfield r1 4 1) S47 fun r48 =>
  pk (ld1 S47 r48) S47 fun r49 =>
  guardA r49 false
  (pe (callV C run 136 (AV.fn 201 [r7]) [AV.str ⟨#[111]⟩] S47) fun r50 S50 =>
  guardA r50 true
  (pk (pfield r1 5 1) S50 fun r51 =>
  pk (ld1 S50 r51) S50 fun r52 =>
  some (AOut.norm [r52] S50))
  (some (AOut.norm [AV.bool false] S50)))
  (some (AOut.norm [AV.bool true] S47)))
  (pe (callV C run 136 (AV.fn 201 [r7]) [AV.str ⟨#[111]⟩] S47) fun r53 S53 =>
  guardA r53 true
  (pk (pfield r1 5 1) S53 fun r54 =>
  pk (ld1 S53 r54) S53 fun r55 =>
  some (AOut.norm [r55] S53))
  (some (AOut.norm [AV.bool false] S53))))
  (some (AOut.norm [AV.bool true] S43)))
  (pe (callV C run 136 (AV.fn 201 [r7]) [AV.str ⟨#[115]⟩] S43) fun r56 S56 =>
  guardA r56 true
  (pk (pfield r1 4 1) S56 fun r57 =>
  pk (ld1 S56 r57) S56 fun r58 =>
  guardA r58 false
  (pe (callV C run 136 (AV.fn 201 [r7]) [AV.str ⟨#[111]⟩] S56) fun r59 S59 =>
  guardA r59 true
  (pk (pfield r1 5 1) S59 fun r60 =>
  pk (ld1 S59 r60) S59 fun r61 =>
  some (AOut.norm [r61] S59))
  (some (AOut.norm [AV.bool false] S59)))
  (some (AOut.norm [AV.bool true] S56)))
  (pe (callV C run 136 (AV.fn 201 [r7]) [AV.str ⟨#[111]⟩] S56) fun r62 S62 =>
  guardA r62 true
  (pk (pfield r1 5 1) S62 fun r63 =>
  pk (ld1 S62 r63) S62 fun r64 =>
  some (AOut.norm [r64] S62))
  (some (AOut.norm [AV.bool false] S62))))))
  (some (AOut.norm [AV.bool true] S13)))
  (pe (callV C run 136 (AV.fn 201 [r7]) [AV.str ⟨#[100]⟩] S13) fun r65 S65 =>
  guardA r65 true
  (pk (pfield r1 2 1) S65 fun r66 =>
  pk (ld1 S65 r66) S65 fun r67 =>
  pk (abin Tryz.prog .neq 2 r67 (AV.int .i64 0)) S65 fun r68 =>
  guardA r68 false
  (pe (callV C run 136 (AV.fn 201 [r7]) [AV.str ⟨#[118]⟩] S65) fun r69 S69 =>
  guardA r69 true
  (pk (pfield r1 3 1) S69 fun r70 =>
  pk (ld1 S69 r70) S69 fun r71 =>
  pk (abin Tryz.prog .neq 2 r71 (AV.int .i64 0)) S69 fun r72 =>
  guardA r72 false
  (pe (callV C run 136 (AV.fn 201 [r7]) [AV.str ⟨#[115]⟩] S69) fun r73 S73 =>
  guardA r73 true
  (pk (pfield r1 4 1) S73 fun r74 =>
  pk (ld1 S73 r74) S73 fun r75 =>
  guardA r75 false
  (pe (callV C run 136 (AV.fn 201 [r7]) [AV.str ⟨#[111]⟩] S73) fun r76 S76 =>
  guardA r76 true
  (pk (pfield r1 5 1) S76 fun r77 =>
  pk (ld1 S76 r77) S76 fun r78 =>
  some (AOut.norm [r78] S76))
  (some (AOut.norm [AV.bool false] S76)))
  (some (AOut.norm [AV.bool true] S73)))
  (pe (callV C run 136 (AV.fn 201 [r7]) [AV.str ⟨#[111]⟩] S73) fun r79 S79 =>
  guardA r79 true
  (pk (pfield r1 5 1) S79 fun r80 =>
  pk (ld1 S79 r80) S79 fun r81 =>
  some (AOut.norm [r81] S79))
  (some (AOut.norm [AV.bool false] S79))))
  (some (AOut.norm [AV.bool true] S69)))
  (pe (callV C run 136 (AV.fn 201 [r7]) [AV.str ⟨#[115]⟩] S69) fun r82 S82 =>
  guardA r82 true
  (pk (pfield r1 4 1) S82 fun r83 =>
  pk (ld1 S82 r83) S82 fun r84 =>
  guardA r84 false
  (pe (callV C run 136 (AV.fn 201 [r7]) [AV.str ⟨#[111]⟩] S82) fun r85 S85 =>
  guardA r85 true
  (pk (pfield r1 5 1) S85 fun r86 =>
  pk (ld1 S85 r86) S85 fun r87 =>
  some (AOut.norm [r87] S85))
  (some (AOut.norm [AV.bool false] S85)))
  (some (AOut.norm [AV.bool true] S82)))
  (pe (callV C run 136 (AV.fn 201 [r7]) [AV.str ⟨#[111]⟩] S82) fun r88 S88 =>
  guardA r88 true
  (pk (pfield r1 5 1) S88 fun r89 =>
  pk (ld1 S88 r89) S88 fun r90 =>
  some (AOut.norm [r90] S88))
  (some (AOut.norm [AV.bool false] S88)))))
  (some (AOut.norm [AV.bool true] S65)))
  (pe (callV C run 136 (AV.fn 201 [r7]) [AV.str ⟨#[118]⟩] S65) fun r91 S91 =>
  guardA r91 true
  (pk (pfield r1 3 1) S91 fun r92 =>
  pk (ld1 S91 r92) S91 fun r93 =>
  pk (abin Tryz.prog .neq 2 r93 (AV.int .i64 0)) S91 fun r94 =>
  guardA r94 false
  (pe (callV C run 136 (AV.fn 201 [r7]) [AV.str ⟨#[115]⟩] S91) fun r95 S95 =>
  guardA r95 true
  (pk (pfield r1 4 1) S95 fun r96 =>
  pk (ld1 S95 r96) S95 fun r97 =>
  guardA r97 false
  (pe (callV C run 136 (AV.fn 201 [r7]) [AV.str ⟨#[111]⟩] S95) fun r98 S98 =>
  guardA r98 true
  (pk (pfield r1 5 1) S98 fun r99 =>
  pk (ld1 S98 r99) S98 fun r100 =>
  some (AOut.norm [r100] S98))
  (some (AOut.norm [AV.bool false] S98)))
  (some (AOut.norm [AV.bool true] S95)))
  (pe (callV C run 136 (AV.fn 201 [r7]) [AV.str ⟨#[111]⟩] S95) fun r101 S101 =>
  guardA r101 true
  (pk (pfield r1 5 1) S101 fun r102 =>
  pk (ld1 S101 r102) S101 fun r103 =>
  some (AOut.norm [r103] S101))
  (some (AOut.norm [AV.bool false] S101))))
  (some (AOut.norm [AV.bool true] S91)))
  (pe (callV C run 136 (AV.fn 201 [r7]) [AV.str ⟨#[115]⟩] S91) fun r104 S104 =>
  guardA r104 true
  (pk (pfield r1 4 1) S104 fun r105 =>
  pk (ld1 S104 r105) S104 fun r106 =>
  guardA r106 false
  (pe (callV C run 136 (AV.fn 201 [r7]) [AV.str ⟨#[111]⟩] S104) fun r107 S107 =>
  guardA r107 true
  (pk (pfield r1 5 1) S107 fun r108 =>
  pk (ld1 S107 r108) S107 fun r109 =>
  some (AOut.norm [r109] S107))
  (some (AOut.norm [AV.bool false] S107)))
  (some (AOut.norm [AV.bool true] S104)))
  (pe (callV C run 136 (AV.fn 201 [r7]) [AV.str ⟨#[111]⟩] S104) fun r110 S110 =>
  guardA r110 true
  (pk (pfield r1 5 1) S110 fun r111 =>
  pk (ld1 S110 r111) S110 fun r112 =>
  some (AOut.norm [r112] S110))
  (some (AOut.norm [AV.bool false] S110)))))))
  (some (AOut.norm [AV.bool true] S8))).bind fun
  | AOut.norm l113 S113 => (ifA ((gd l113 0))
  (some (AOut.ret [AV.int .i64 1] S113))
  (pe (callV C run 136 (AV.fn 201 [r7]) [AV.str ⟨#[112]⟩] S113) fun r114 S114 =>
  ifA r114
  (some (AOut.ret [AV.int .i64 0] S114))
  (some (AOut.norm [AV.int .i64 0] S114))))
  | AOut.exit x113 l113 S113 => (if x113 = 0 then (some (AOut.norm [AV.int .i64 0] S113)) else (some (AOut.exit x113 [AV.int .i64 0] S113)))
  | AOut.ret l113 S113 => (some (AOut.ret [AV.int .i64 0] S113))).bind fun
  | AOut.norm l115 S115 => (pk (pfield r1 1 1) S115 fun r116 =>
  pk (ld1 S115 r116) S115 fun r117 =>
  pq (call0 run 203 [r117] S115) fun r118 =>
  pk (abin Tryz.prog .neq 2 r118 (AV.int .i64 0)) S115 fun r119 =>
  ifA r119
  (some (r118, S115))
  ((pk (pfield r1 2 1) S115 fun r120 =>
  pk (ld1 S115 r120) S115 fun r121 =>
  pq (call0 run 204 [r121] S115) fun r122 =>
  pk (aun .not r122) S115 fun r123 =>
  guardA r123 false
  (pk (pfield r1 3 1) S115 fun r124 =>
  pk (ld1 S115 r124) S115 fun r125 =>
  pq (call0 run 132 [r125, AV.int .i64 (-1), AV.int .i64 999] S115) fun r126 =>
  pk (aun .not r126) S115 fun r127 =>
  ifA r127
  (some (AOut.ret [AV.int .i64 3] S115))
  (some (AOut.norm [(gd l115 0)] S115)))
  (some (AOut.ret [AV.int .i64 3] S115))).bind fun
  | AOut.norm l128 S128 => (some (AV.int .i64 0, S128))
  | AOut.exit x128 l128 S128 => (none)
  | AOut.ret l128 S128 => (some ((gd l128 0), S128))))
  | AOut.exit x115 l115 S115 => (none)
  | AOut.ret l115 S115 => (some ((gd l115 0), S115))
theorem t136 (N d : Nat) (a0 : AV) (S : St) : R N (d + 1) 136 [a0] S = b136 (cfg N) (R N d) a0 S := by unfold R; kernel_rfl
def s205_0 (C : Cfg) (run : RunT) (a0 : AV) (a1 : AV) (r1 : AV) (l : List AV) (S : St) : Option AOut :=
  pk (bin2 Tryz.prog .lss 3 ((gd l 1)) r1) S fun r2 =>
  ifA r2
  (pk (pindex 6 a0 ((gd l 1)) S) S fun r3 =>
  pk (ldA S r3 6) S fun r4 =>
  pe (callV C run 205 a1 [r4] S) fun r5 S5 =>
  ifA r5
  (some (AOut.ret [(gd l 1), (gd l 1)] S5))
  (pk (abin Tryz.prog .add 3 ((gd l 1)) (AV.int .i64 1)) S5 fun r6 =>
  some (AOut.norm [(gd l 0), r6] S5)))
  (some (AOut.exit 0 [(gd l 0), (gd l 1)] S))
def b205 (C : Cfg) (run : RunT) (a0 a1 : AV) (S : St) : OA :=
  pk (alen a0) S fun r1 =>
  (aloop (s205_0 C run a0 a1 r1) C.N [AV.int .i64 0, AV.int .i64 0] S).bind fun
  | AOut.norm _ _ => (none)
  | AOut.exit x7 l7 S7 => (if x7 = 0 then (some (AV.int .i64 (-1), S7)) else (none))
  | AOut.ret l7 S7 => (some ((gd l7 0), S7))
theorem t205 (N d : Nat) (a0 a1 : AV) (S : St) : R N (d + 1) 205 [a0, a1] S = b205 (cfg N) (R N d) a0 a1 S := by unfold R; kernel_rfl
def b137 (C : Cfg) (run : RunT) (a0 a1 : AV) (S : St) : OA :=
  pq (call0 run 205 [a0, a1] S) fun r1 =>
  pk (abin Tryz.prog .geq 3 r1 (AV.int .i64 0)) S fun r2 =>
  some (r2, S)
theorem t137 (N d : Nat) (a0 a1 : AV) (S : St) : R N (d + 1) 137 [a0, a1] S = b137 (cfg N) (R N d) a0 a1 S := by unfold R; kernel_rfl
def b138 (C : Cfg) (run : RunT) (a0 : AV) (S : St) : OA :=
  pe (boxA a0 S) fun r1 S1 =>
  pk (pfield r1 0 1) S1 fun r2 =>
  pk (ld1 S1 r2) S1 fun r3 =>
  pk (abin Tryz.prog .eql 2 r3 (AV.int .i64 1)) S1 fun r4 =>
  guardA r4 false
  (pk (pfield r1 0 1) S1 fun r5 =>
  pk (ld1 S1 r5) S1 fun r6 =>
  pk (abin Tryz.prog .eql 2 r6 (AV.int .i64 2)) S1 fun r7 =>
  some (r7, S1))
  (some (AV.bool true, S1))
theorem t138 (N d : Nat) (a0 : AV) (S : St) : R N (d + 1) 138 [a0] S = b138 (cfg N) (R N d) a0 S := by unfold R; kernel_rfl
def s70_0 (C : Cfg) (run : RunT) (r22 : AV) (r23 : AV) (l : List AV) (S : St) : Option AOut :=
  pk (bin2 Tryz.prog .lss 3 ((gd l 1)) r23) S fun r24 =>
  ifA r24
  (pk (pindex 6 r22 ((gd l 1)) S) S fun r25 =>
  pk (ldA S r25 6) S fun r26 =>
  pe (some (newBox S [AV.int .i64 0, AV.str ⟨#[]⟩, AV.int .i64 0, AV.int .i64 0, AV.bool false, AV.bool false])) fun r27 S27 =>
  pe (storeA 6 r27 r26 S27) fun r28 S28 =>
  pk (ldA S28 r27 6) S28 fun r29 =>
  pq (call0 run 136 [r29] S28) fun r30 =>
  pk (abin Tryz.prog .neq 2 r30 (AV.int .i64 0)) S28 fun r31 =>
  ifA r31
  (some (AOut.ret [r30, (gd l 1)] S28))
  (pk (abin Tryz.prog .add 3 ((gd l 1)) (AV.int .i64 1)) S28 fun r32 =>
  some (AOut.norm [(gd l 0), r32] S28)))
  (some (AOut.exit 1 [(gd l 0), (gd l 1)] S))
def b70 (C : Cfg) (run : RunT) (a0 : AV) (S : St) : OA :=
  pe (boxA a0 S) fun r1 S1 =>
  ((pk (pfield r1 0 1) S1 fun r2 =>
  pk (ld1 S1 r2) S1 fun r3 =>
  pq (call0 run 134 [r3] S1) fun r4 =>
  pk (aun .not r4) S1 fun r5 =>
  guardA r5 false
  (pk (pfield r1 1 1) S1 fun r6 =>
  pk (ld1 S1 r6) S1 fun r7 =>
  pq (call0 run 132 [r7, AV.int .i64 1, AV.int .i64 99] S1) fun r8 =>
  pk (aun .not r8) S1 fun r9 =>
  guardA r9 false
  (pk (pfield r1 2 1) S1 fun r10 =>
  pk (ld1 S1 r10) S1 fun r11 =>
  pq (call0 run 135 [r11] S1) fun r12 =>
  pk (aun .not r12) S1 fun r13 =>
  some (AOut.norm [r13] S1))
  (some (AOut.norm [AV.bool true] S1)))
  (some (AOut.norm [AV.bool true] S1))).bind fun
  | AOut.norm l14 S14 => (ifA ((gd l14 0))
  (some (AOut.ret [AV.int .i64 3] S14))
  (pk (pfield r1 3 1) S14 fun r15 =>
  pk (ld1 S14 r15) S14 fun r16 =>
  pk (alen r16) S14 fun r17 =>
  pq (call0 run 132 [r17, AV.int .i64 1, AV.int .i64 3] S14) fun r18 =>
  pk (aun .not r18) S14 fun r19 =>
  ifA r19
  (some (AOut.ret [AV.int .i64 2] S14))
  (some (AOut.norm [AV.int .i64 0] S14))))
  | AOut.exit x14 l14 S14 => (if x14 = 0 then (some (AOut.norm [AV.int .i64 0] S14)) else (some (AOut.exit x14 [AV.int .i64 0] S14)))
  | AOut.ret l14 S14 => (some (AOut.ret [AV.int .i64 0] S14))).bind fun
  | AOut.norm l20 S20 => (pk (pfield r1 3 1) S20 fun r21 =>
  pk (ld1 S20 r21) S20 fun r22 =>
  pk (alen r22) S20 fun r23 =>
  (aloop (s70_0 C run r22 r23) C.N [(gd l20 0), AV.int .i64 0] S20).bind fun
  | AOut.norm _ _ => (none)
  | AOut.exit x33 l33 S33 => (if x33 = 1 then ((pk (pfield r1 3 1) S33 fun r34 =>
  pk (ld1 S33 r34) S33 fun r35 =>
  pk (alen r35) S33 fun r36 =>
  pk (abin Tryz.prog .gtr 3 r36 (AV.int .i64 1)) S33 fun r37 =>
  guardA r37 true
  (pk (pfield r1 3 1) S33 fun r38 =>
  pk (ld1 S33 r38) S33 fun r39 =>
  pq (call0 run 137 [r39, AV.fn 138 []] S33) fun r40 =>
  ifA r40
  (some (AOut.ret [AV.int .i64 1] S33))
  (some (AOut.norm [(gd l33 0)] S33)))
  (some (AOut.norm [(gd l33 0)] S33))).bind fun
  | AOut.norm l41 S41 => (some (AV.int .i64 0, S41))
  | AOut.exit x41 l41 S41 => (none)
  | AOut.ret l41 S41 => (some ((gd l41 0), S41))) else (none))
  | AOut.ret l33 S33 => (some ((gd l33 0), S33)))
  | AOut.exit x20 l20 S20 => (none)
  | AOut.ret l20 S20 => (some ((gd l20 0), S20))
theorem t70 (N d : Nat) (a0 : AV) (S : St) : R N (d + 1) 70 [a0] S = b70 (cfg N) (R N d) a0 S := by unfold R; kernel_rfl
def s139_0 (C : Cfg) (run : RunT) (a0 : AV) (a1 : AV) (r1 : AV) (l : List AV) (S : St) : Option AOut :=
  pk (bin2 Tryz.prog .lss 3 ((gd l 1)) r1) S fun r2 =>
  ifA r2
  (pk (pindex 4 a0 ((gd l 1)) S) S fun r3 =>
  pk (ldA S r3 4) S fun r4 =>
  pe (callV C run 139 a1 [r4] S) fun r5 S5 =>
  ifA r5
  (some (AOut.ret [(gd l 1), (gd l 1)] S5))
  (pk (abin Tryz.prog .add 3 ((gd l 1)) (AV.int .i64 1)) S5 fun r6 =>
  some (AOut.norm [(gd l 0), r6] S5)))
  (some (AOut.exit 0 [(gd l 0), (gd l 1)] S))
def b139 (C : Cfg) (run : RunT) (a0 a1 : AV) (S : St) : OA :=
  pk (alen a0) S fun r1 =>
  (aloop (s139_0 C run a0 a1 r1) C.N [AV.int .i64 0, AV.int .i64 0] S).bind fun
  | AOut.norm _ _ => (none)
  | AOut.exit x7 l7 S7 => (if x7 = 0 then (some (AV.int .i64 (-1), S7)) else (none))
  | AOut.ret l7 S7 => (some ((gd l7 0), S7))
theorem t139 (N d : Nat) (a0 a1 : AV) (S : St) : R N (d + 1) 139 [a0, a1] S = b139 (cfg N) (R N d) a0 a1 S := by unfold R; kernel_rfl
def b140 (C : Cfg) (run : RunT) (a0 a1 : AV) (S : St) : OA :=
  pe (boxA a0 S) fun r1 S1 =>
  pk (pfield r1 0 1) S1 fun r2 =>
  pk (ld1 S1 r2) S1 fun r3 =>
  pk (pfield a1 0 1) S1 fun r4 =>
  pk (ld1 S1 r4) S1 fun r5 =>
  pk (bin2 Tryz.prog .eql 2 r3 r5) S1 fun r6 =>
  guardA r6 true
  (pk (pfield r1 1 1) S1 fun r7 =>
  pk (ld1 S1 r7) S1 fun r8 =>
  pk (pfield a1 1 1) S1 fun r9 =>
  pk (ld1 S1 r9) S1 fun r10 =>
  pk (bin2 Tryz.prog .eql 2 r8 r10) S1 fun r11 =>
  some (r11, S1))
  (some (AV.bool false, S1))
theorem t140 (N d : Nat) (a0 a1 : AV) (S : St) : R N (d + 1) 140 [a0, a1] S = b140 (cfg N) (R N d) a0 a1 S := by unfold R; kernel_rfl
def b71 (C : Cfg) (run : RunT) (a0 a1 : AV) (S : St) : OA :=
  pe (boxA a1 S) fun r1 S1 =>
  pq (call0 run 139 [a0, AV.fn 140 [r1]] S1) fun r2 =>
  some (r2, S1)
theorem t71 (N d : Nat) (a0 a1 : AV) (S : St) : R N (d + 1) 71 [a0, a1] S = b71 (cfg N) (R N d) a0 a1 S := by unfold R; kernel_rfl
def s18_0 (C : Cfg) (run : RunT) (r27 : AV) (r28 : AV) (l : List AV) (S : St) : Option AOut :=
  pk (bin2 Tryz.prog .lss 3 ((gd l 1)) r28) S fun r29 =>
  ifA r29
  (pk (pindex 4 r27 ((gd l 1)) S) S fun r30 =>
  pk (ldA S r30 4) S fun r31 =>
  pe (some (newBox S [AV.int .i64 0, AV.int .i64 0, AV.int .i64 0, AV.int .i64 0])) fun r32 S32 =>
  pe (storeA 4 r32 r31 S32) fun r33 S33 =>
  pk (pfield r32 0 1) S33 fun r34 =>
  pk (ld1 S33 r34) S33 fun r35 =>
  pe (abuildS Tryz.prog 22 1 [(0, r35)] S33) fun r36 S36 =>
  pe (appA 1 8 ((gd l 0)) r36 S36) fun r37 S37 =>
  pk (abin Tryz.prog .add 3 ((gd l 1)) (AV.int .i64 1)) S37 fun r38 =>
  some (AOut.norm [r37, r38] S37))
  (some (AOut.exit 0 [(gd l 0), (gd l 1)] S))
def s18_1 (C : Cfg) (run : RunT) (r1 : AV) (r52 : AV) (r54 : AV) (r55 : AV) (l : List AV) (S : St) : Option AOut :=
  pk (bin2 Tryz.prog .lss 3 ((gd l 1)) r55) S fun r56 =>
  ifA r56
  (pk (pindex 4 r54 ((gd l 1)) S) S fun r57 =>
  pk (ldA S r57 4) S fun r58 =>
  pe (some (newBox S [AV.int .i64 0, AV.int .i64 0, AV.int .i64 0, AV.int .i64 0])) fun r59 S59 =>
  pe (storeA 4 r59 r58 S59) fun r60 S60 =>
  pk (pfield r1 0 1) S60 fun r61 =>
  pk (ld1 S60 r61) S60 fun r62 =>
  pk (pfield r1 3 1) S60 fun r63 =>
  pk (ld1 S60 r63) S60 fun r64 =>
  pk (ldA S60 r59 4) S60 fun r65 =>
  pq (call0 run 69 [r62, r64, r65, r52] S60) fun r66 =>
  pk (abin Tryz.prog .neq 2 r66 (AV.int .i64 0)) S60 fun r67 =>
  ifA r67
  (some (AOut.ret [r66, (gd l 1)] S60))
  (pk (abin Tryz.prog .add 3 ((gd l 1)) (AV.int .i64 1)) S60 fun r68 =>
  some (AOut.norm [(gd l 0), r68] S60)))
  (some (AOut.exit 2 [(gd l 0), (gd l 1)] S))
def s18_2 (C : Cfg) (run : RunT) (r1 : AV) (r71 : AV) (r72 : AV) (l : List AV) (S : St) : Option AOut :=
  pk (bin2 Tryz.prog .lss 3 ((gd l 1)) r72) S fun r73 =>
  ifA r73
  (pk (pindex 4 r71 ((gd l 1)) S) S fun r74 =>
  pk (ldA S r74 4) S fun r75 =>
  pe (some (newBox S [AV.int .i64 0, AV.int .i64 0, AV.int .i64 0, AV.rsl false true []])) fun r76 S76 =>
  pe (storeA 4 r76 r75 S76) fun r77 S77 =>
  pk (ldA S77 r76 4) S77 fun r78 =>
  pq (call0 run 70 [r78] S77) fun r79 =>
  pk (abin Tryz.prog .neq 2 r79 (AV.int .i64 0)) S77 fun r80 =>
  ifA r80
  (some (AOut.ret [r79, (gd l 1)] S77))
  (pk (pfield r1 4 1) S77 fun r81 =>
  pk (ld1 S77 r81) S77 fun r82 =>
  pq (sliceA 4 r82 none (some ((gd l 1))) none S77) fun r83 =>
  pk (ldA S77 r76 4) S77 fun r84 =>
  pq (call0 run 71 [r83, r84] S77) fun r85 =>
  pk (abin Tryz.prog .geq 3 r85 (AV.int .i64 0)) S77 fun r86 =>
  ifA r86
  (some (AOut.ret [AV.int .i64 6, (gd l 1)] S77))
  (pk (abin Tryz.prog .add 3 ((gd l 1)) (AV.int .i64 1)) S77 fun r87 =>
  some (AOut.norm [(gd l 0), r87] S77))))
  (some (AOut.exit 4 [(gd l 0), (gd l 1)] S))
def b18 (C : Cfg) (run : RunT) (a0 : AV) (S : St) : OA :=
  pe (boxA a0 S) fun r1 S1 =>
  pk (pfield r1 0 1) S1 fun r2 =>
  pk (ld1 S1 r2) S1 fun r3 =>
  pk (pfield r1 3 1) S1 fun r4 =>
  pk (ld1 S1 r4) S1 fun r5 =>
  pq (call0 run 64 [r3, r5] S1) fun r6 =>
  pk (abin Tryz.prog .neq 2 r6 (AV.int .i64 0)) S1 fun r7 =>
  ifA r7
  (some (r6, S1))
  ((pk (pfield r1 1 1) S1 fun r8 =>
  pk (ld1 S1 r8) S1 fun r9 =>
  pk (alen r9) S1 fun r10 =>
  pk (pfield r1 0 1) S1 fun r11 =>
  pk (ld1 S1 r11) S1 fun r12 =>
  pk (bin2 Tryz.prog .gtr 2 r10 r12) S1 fun r13 =>
  guardA r13 false
  (pk (pfield r1 4 1) S1 fun r14 =>
  pk (ld1 S1 r14) S1 fun r15 =>
  pk (alen r15) S1 fun r16 =>
  pk (abin Tryz.prog .gtr 3 r16 (AV.int .i64 12)) S1 fun r17 =>
  ifA r17
  (some (AOut.ret [AV.int .i64 2] S1))
  (some (AOut.norm [AV.int .i64 0] S1)))
  (some (AOut.ret [AV.int .i64 2] S1))).bind fun
  | AOut.norm l18 S18 => (pk (pfield r1 0 1) S18 fun r19 =>
  pk (ld1 S18 r19) S18 fun r20 =>
  pk (pfield r1 1 1) S18 fun r21 =>
  pk (ld1 S18 r21) S18 fun r22 =>
  pq (call0 run 65 [r20, r22] S18) fun r23 =>
  pk (abin Tryz.prog .neq 2 r23 (AV.int .i64 0)) S18 fun r24 =>
  ifA r24
  (some (r23, S18))
  (pe (abuildS Tryz.prog 22 0 [] S18) fun r25 S25 =>
  pk (pfield r1 2 1) S25 fun r26 =>
  pk (ld1 S25 r26) S25 fun r27 =>
  pk (alen r27) S25 fun r28 =>
  (aloop (s18_0 C run r27 r28) C.N [r25, AV.int .i64 0] S25).bind fun
  | AOut.norm _ _ => (none)
  | AOut.exit x39 l39 S39 => (if x39 = 0 then (pk (pfield r1 0 1) S39 fun r40 =>
  pk (ld1 S39 r40) S39 fun r41 =>
  pk (pfield r1 1 1) S39 fun r42 =>
  pk (ld1 S39 r42) S39 fun r43 =>
  pq (call0 run 67 [r41, r43] S39) fun r44 =>
  pq (call0 run 66 [(gd l39 0), r44] S39) fun r45 =>
  pk (aun .not r45) S39 fun r46 =>
  ifA r46
  (some (AV.int .i64 1, S39))
  (pk (pfield r1 0 1) S39 fun r47 =>
  pk (ld1 S39 r47) S39 fun r48 =>
  pk (pfield r1 3 1) S39 fun r49 =>
  pk (ld1 S39 r49) S39 fun r50 =>
  pq (call0 run 68 [r48, r50] S39) fun r51 =>
  pk (alen r51) S39 fun r52 =>
  pk (pfield r1 2 1) S39 fun r53 =>
  pk (ld1 S39 r53) S39 fun r54 =>
  pk (alen r54) S39 fun r55 =>
  (aloop (s18_1 C run r1 r52 r54 r55) C.N [(gd l18 0), AV.int .i64 0] S39).bind fun
  | AOut.norm _ _ => (none)
  | AOut.exit x69 l69 S69 => (if x69 = 2 then (pk (pfield r1 4 1) S69 fun r70 =>
  pk (ld1 S69 r70) S69 fun r71 =>
  pk (alen r71) S69 fun r72 =>
  (aloop (s18_2 C run r1 r71 r72) C.N [(gd l69 0), AV.int .i64 0] S69).bind fun
  | AOut.norm _ _ => (none)
  | AOut.exit x88 l88 S88 => (if x88 = 4 then (some (AV.int .i64 0, S88)) else (none))
  | AOut.ret l88 S88 => (some ((gd l88 0), S88))) else (none))
  | AOut.ret l69 S69 => (some ((gd l69 0), S69)))) else (none))
  | AOut.ret l39 S39 => (some ((gd l18 0), S39))))
  | AOut.exit x18 l18 S18 => (none)
  | AOut.ret l18 S18 => (some ((gd l18 0), S18)))
theorem t18 (N d : Nat) (a0 : AV) (S : St) : R N (d + 1) 18 [a0] S = b18 (cfg N) (R N d) a0 S := by unfold R; kernel_rfl
def s148_0 (C : Cfg) (run : RunT) (a0 : AV) (a1 : AV) (r1 : AV) (l : List AV) (S : St) : Option AOut :=
  pk (bin2 Tryz.prog .lss 3 ((gd l 1)) r1) S fun r2 =>
  ifA r2
  (pk (pindex 4 a0 ((gd l 1)) S) S fun r3 =>
  pk (ldA S r3 4) S fun r4 =>
  pe (callV C run 148 a1 [r4] S) fun r5 S5 =>
  ifA r5
  (some (AOut.ret [(gd l 1), (gd l 1)] S5))
  (pk (abin Tryz.prog .add 3 ((gd l 1)) (AV.int .i64 1)) S5 fun r6 =>
  some (AOut.norm [(gd l 0), r6] S5)))
  (some (AOut.exit 0 [(gd l 0), (gd l 1)] S))
def b148 (C : Cfg) (run : RunT) (a0 a1 : AV) (S : St) : OA :=
  pk (alen a0) S fun r1 =>
  (aloop (s148_0 C run a0 a1 r1) C.N [AV.int .i64 0, AV.int .i64 0] S).bind fun
  | AOut.norm _ _ => (none)
  | AOut.exit x7 l7 S7 => (if x7 = 0 then (some (AV.int .i64 (-1), S7)) else (none))
  | AOut.ret l7 S7 => (some ((gd l7 0), S7))
theorem t148 (N d : Nat) (a0 a1 : AV) (S : St) : R N (d + 1) 148 [a0, a1] S = b148 (cfg N) (R N d) a0 a1 S := by unfold R; kernel_rfl
def b149 (C : Cfg) (run : RunT) (a0 a1 : AV) (S : St) : OA :=
  pe (boxA a0 S) fun r1 S1 =>
  pk (pfield r1 0 1) S1 fun r2 =>
  pk (ld1 S1 r2) S1 fun r3 =>
  pk (ld1 S1 a1) S1 fun r4 =>
  pk (bin2 Tryz.prog .eql 2 r3 r4) S1 fun r5 =>
  some (r5, S1)
theorem t149 (N d : Nat) (a0 a1 : AV) (S : St) : R N (d + 1) 149 [a0, a1] S = b149 (cfg N) (R N d) a0 a1 S := by unfold R; kernel_rfl
def b82 (C : Cfg) (run : RunT) (a0 a1 : AV) (S : St) : OA :=
  pe (boxA a1 S) fun r1 S1 =>
  pq (nilA a0 S1) fun r2 =>
  pk (pfield r2 2 1) S1 fun r3 =>
  pk (ld1 S1 r3) S1 fun r4 =>
  pq (call0 run 148 [r4, AV.fn 149 [r1]] S1) fun r5 =>
  pk (abin Tryz.prog .lss 3 r5 (AV.int .i64 0)) S1 fun r6 =>
  ifA r6
  (some (AV.nilp, S1))
  (pq (nilA a0 S1) fun r7 =>
  pk (pfield r7 2 1) S1 fun r8 =>
  pk (ld1 S1 r8) S1 fun r9 =>
  pk (pindex 4 r9 r5 S1) S1 fun r10 =>
  some (r10, S1))
theorem t82 (N d : Nat) (a0 a1 : AV) (S : St) : R N (d + 1) 82 [a0, a1] S = b82 (cfg N) (R N d) a0 a1 S := by unfold R; kernel_rfl
def b85 (C : Cfg) (run : RunT) (a0 a1 : AV) (S : St) : OA :=
  pq (call0 run 154 [a0, a1] S) fun r1 =>
  pk (abin Tryz.prog .geq 3 r1 (AV.int .i64 0)) S fun r2 =>
  some (r2, S)
theorem t85 (N d : Nat) (a0 a1 : AV) (S : St) : R N (d + 1) 85 [a0, a1] S = b85 (cfg N) (R N d) a0 a1 S := by unfold R; kernel_rfl
def b86 (C : Cfg) (run : RunT) (a0 a1 : AV) (S : St) : OA :=
  pe (boxA a0 S) fun r1 S1 =>
  (pk (pfield r1 0 1) S1 fun r2 =>
  pk (ld1 S1 r2) S1 fun r3 =>
  pk (pfield a1 0 1) S1 fun r4 =>
  pk (ld1 S1 r4) S1 fun r5 =>
  pk (bin2 Tryz.prog .eql 2 r3 r5) S1 fun r6 =>
  guardA r6 true
  (pk (pfield r1 2 1) S1 fun r7 =>
  pk (ld1 S1 r7) S1 fun r8 =>
  pk (pfield a1 2 1) S1 fun r9 =>
  pk (ld1 S1 r9) S1 fun r10 =>
  pk (bin2 Tryz.prog .eql 2 r8 r10) S1 fun r11 =>
  guardA r11 true
  (pk (pfield r1 1 1) S1 fun r12 =>
  pk (ld1 S1 r12) S1 fun r13 =>
  pk (pfield a1 1 1) S1 fun r14 =>
  pk (ld1 S1 r14) S1 fun r15 =>
  pk (bin2 Tryz.prog .eql 2 r13 r15) S1 fun r16 =>
  guardA r16 true
  (pk (pfield r1 3 1) S1 fun r17 =>
  pk (ld1 S1 r17) S1 fun r18 =>
  pk (pfield a1 3 1) S1 fun r19 =>
  pk (ld1 S1 r19) S1 fun r20 =>
  pk (bin2 Tryz.prog .eql 2 r18 r20) S1 fun r21 =>
  some (AOut.norm [r21] S1))
  (some (AOut.norm [AV.bool false] S1)))
  (some (AOut.norm [AV.bool false] S1)))
  (some (AOut.norm [AV.bool false] S1))).bind fun
  | AOut.norm l22 S22 => (some ((gd l22 0), S22))
  | AOut.exit x22 l22 S22 => (none)
  | AOut.ret l22 S22 => (some ((gd l22 0), S22))
theorem t86 (N d : Nat) (a0 a1 : AV) (S : St) : R N (d + 1) 86 [a0, a1] S = b86 (cfg N) (R N d) a0 a1 S := by unfold R; kernel_rfl
def s25_0 (C : Cfg) (run : RunT) (r1 : AV) (r6 : AV) (r7 : AV) (l : List AV) (S : St) : Option AOut :=
  pk (bin2 Tryz.prog .lss 3 ((gd l 1)) r7) S fun r8 =>
  ifA r8
  ((pk (pindex 7 r6 ((gd l 1)) S) S fun r9 =>
  pk (ldA S r9 7) S fun r10 =>
  pe (some (newBox S [AV.int .i64 0, AV.int .i64 0, AV.int .i64 0, AV.int .i64 0, AV.int .i64 0, AV.rsl false true [], AV.rsl false true []])) fun r11 S11 =>
  pe (storeA 7 r11 r10 S11) fun r12 S12 =>
  pk (pfield r11 2 1) S12 fun r13 =>
  pk (ld1 S12 r13) S12 fun r14 =>
  pe (callS run 82 [r1, r14] S12) fun r15 S15 =>
  pk (abin Tryz.prog .eql 106 r15 AV.nilp) S15 fun r16 =>
  ifA r16
  (some (AOut.norm [(gd l 0)] S15))
  ((pk (pfield r11 0 1) S15 fun r17 =>
  pk (ld1 S15 r17) S15 fun r18 =>
  pk (abin Tryz.prog .eql 2 r18 (AV.int .i64 4)) S15 fun r19 =>
  guardA r19 true
  (pk (pfield r1 0 1) S15 fun r20 =>
  pk (ld1 S15 r20) S15 fun r21 =>
  pk (pfield r1 3 1) S15 fun r22 =>
  pk (ld1 S15 r22) S15 fun r23 =>
  pq (call0 run 83 [r21, r23, (gd l 1)] S15) fun r24 =>
  pk (aun .not r24) S15 fun r25 =>
  ifA r25
  (some (AOut.ret [AV.bool false] S15))
  (some (AOut.norm [(gd l 0)] S15)))
  (some (AOut.norm [(gd l 0)] S15))).bind fun
  | AOut.norm l26 S26 => (pk (pfield r11 0 1) S26 fun r27 =>
  pk (ld1 S26 r27) S26 fun r28 =>
  pq (call0 run 84 [r28] S26) fun r29 =>
  guardA r29 true
  (pk (pfield r1 3 1) S26 fun r30 =>
  pk (ld1 S26 r30) S26 fun r31 =>
  pq (sliceA 7 r31 none (some ((gd l 1))) none S26) fun r32 =>
  pq (call0 run 85 [r32, AV.fn 86 [r11]] S26) fun r33 =>
  ifA r33
  (some (AOut.ret [AV.bool false] S26))
  (some (AOut.norm [(gd l26 0)] S26)))
  (some (AOut.norm [(gd l26 0)] S26)))
  | AOut.exit x26 l26 S26 => (if x26 = 1 then (some (AOut.norm [(gd l26 0)] S26)) else (some (AOut.exit x26 [(gd l26 0)] S26)))
  | AOut.ret l26 S26 => (some (AOut.ret [(gd l26 0)] S26)))).bind fun
  | AOut.norm l34 S34 => (pk (abin Tryz.prog .add 3 ((gd l 1)) (AV.int .i64 1)) S34 fun r35 =>
  some (AOut.norm [(gd l34 0), r35] S34))
  | AOut.exit x34 l34 S34 => (some (AOut.exit x34 [(gd l34 0), (gd l 1)] S34))
  | AOut.ret l34 S34 => (some (AOut.ret [(gd l34 0), (gd l 1)] S34)))
  (some (AOut.exit 0 [(gd l 0), (gd l 1)] S))
def b25 (C : Cfg) (run : RunT) (a0 : AV) (S : St) : OA :=
  pe (boxA a0 S) fun r1 S1 =>
  pk (ldA S1 r1 5) S1 fun r2 =>
  pq (call0 run 18 [r2] S1) fun r3 =>
  pk (abin Tryz.prog .neq 2 r3 (AV.int .i64 0)) S1 fun r4 =>
  ifA r4
  (some (AV.bool false, S1))
  (pk (pfield r1 3 1) S1 fun r5 =>
  pk (ld1 S1 r5) S1 fun r6 =>
  pk (alen r6) S1 fun r7 =>
  (aloop (s25_0 C run r1 r6 r7) C.N [AV.bool false, AV.int .i64 0] S1).bind fun
  | AOut.norm _ _ => (none)
  | AOut.exit x36 l36 S36 => (if x36 = 0 then (some (AV.bool true, S36)) else (none))
  | AOut.ret l36 S36 => (some ((gd l36 0), S36)))
theorem t25 (N d : Nat) (a0 : AV) (S : St) : R N (d + 1) 25 [a0] S = b25 (cfg N) (R N d) a0 S := by unfold R; kernel_rfl
def b6 (C : Cfg) (run : RunT) (a0 : AV) (S : St) : OA :=
  pe (boxA a0 S) fun r1 S1 =>
  pk (ldA S1 r1 5) S1 fun r2 =>
  pq (call0 run 15 [r2, AV.int .i64 1048576] S1) fun r3 =>
  pk (abin Tryz.prog .lss 3 r3 (AV.int .i64 0)) S1 fun r4 =>
  ifA r4
  (some (AV.bool true, S1))
  (pk (ldA S1 r1 5) S1 fun r5 =>
  pq (call0 run 17 [r5] S1) fun r6 =>
  pq (call0 run 24 [r6] S1) fun r7 =>
  pk (ldA S1 r1 5) S1 fun r8 =>
  pq (call0 run 17 [r8] S1) fun r9 =>
  pe (some (newBox S1 [AV.int .i64 0, AV.rsl false true [], AV.rsl false true [], AV.rsl false true [], AV.rsl false true []])) fun r10 S10 =>
  pe (storeA 5 r10 r9 S10) fun r11 S11 =>
  pk (ldA S11 r10 5) S11 fun r12 =>
  pq (call0 run 25 [r12] S11) fun r13 =>
  pk (bin2 Tryz.prog .neq 4 r13 r7) S11 fun r14 =>
  ifA r14
  (some (AV.bool false, S11))
  (pk (ldA S11 r10 5) S11 fun r15 =>
  pk (ldA S11 r1 5) S11 fun r16 =>
  pq (call0 run 17 [r16] S11) fun r17 =>
  pq (call0 run 19 [r15, r17] S11) fun r18 =>
  pk (aun .not r18) S11 fun r19 =>
  ifA r19
  (some (AV.bool false, S11))
  (some (AV.bool true, S11))))
theorem t6 (N d : Nat) (a0 : AV) (S : St) : R N (d + 1) 6 [a0] S = b6 (cfg N) (R N d) a0 S := by unfold R; kernel_rfl
end
end Go.Proofs.YtgjplfeejfeioaaGreatDoor
