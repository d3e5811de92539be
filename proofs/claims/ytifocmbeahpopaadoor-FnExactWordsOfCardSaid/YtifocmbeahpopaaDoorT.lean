/- What the evaluator makes of the functions; what they compute. -/
import Derived.Test.YtifocmbeahpopaaDoorProg
import Derived.KernelRfl
import Derived.Test.YtifocmbeahpopaaDoorRg2
import Derived.Test.YtifocmbeahpopaaDoorRh4
import Derived.Lib.Bytealg
namespace Go.Proofs.YtifocmbeahpopaaDoor
open Go Go.Rf
set_option linter.unusedVariables false
noncomputable section
def cutT:List (Nat×List Nat):=[(1400006008,[5,6]),(1410004005,[5,6,7]),(900006007,[3]),(910004005,[3,5]),(1910002006,[4,8]),(1500007010,[5]),(1510005006,[5,6]),(2000005006,[3]),(2010011016,[0,10]),(1110004005,[4,5]),(1810004006,[0,3]),(1210002003,[1,5]),(1310002003,[1,4,5])]
def mdT:List (Nat×Nat):=[(30005,1),(30007,2),(50010,1),(70012,2),(100015,2),(100016,1),(160020,1)]
@[irreducible] def NN:Nat:=maxLen + 1
def ext22:ByteArray→UInt8→Int:=fun s c=>(Lib.countByte s.data.toList c:Int)
def ext23:ByteArray→UInt8→Int:=fun s c=>(Lib.indexByte s.data.toList c:Int)
def cfg (N:Nat):Cfg:={ P:=Tryd.prog,N:=N,md:=fun f g=>lookM mdT (f * 10000 + g),cut:=fun f k=>lookT cutT (f * 100000000 + k),ext:=fun f=>if f = 22 then some (extSB ext22) else if f = 23 then some (extSB ext23) else none }
abbrev N0:=AV.rsl false true []
abbrev Z0:=AV.int .i64 0
abbrev Z1:=AV.int .i64 1
abbrev PP:=Tryd.prog
abbrev nO (l:List AV) (S:St):Option AOut:=some (.norm l S)
abbrev eO (i:Nat) (l:List AV) (S:St):Option AOut:=some (.exit i l S)
abbrev rO (l:List AV) (S:St):Option AOut:=some (.ret l S)
abbrev lA {ρ:Type} (S:St) (a:AV) (n:Nat) (k:AV→Option ρ):Option ρ:=pk (ldA S a n) S k
abbrev l1 {ρ:Type} (S:St) (a:AV) (k:AV→Option ρ):Option ρ:=pk (ld1 S a) S k
abbrev nA {ρ:Type} (S:St) (a:AV) (k:AV→Option ρ):Option ρ:=pk (alen a) S k
abbrev fA {ρ:Type} (S:St) (a:AV) (o c:Nat) (k:AV→Option ρ):Option ρ:=pk (pfield a o c) S k
abbrev fL {ρ:Type} (S:St) (a:AV) (o c:Nat) (k:AV→Option ρ):Option ρ:=fA S a o c fun r=>l1 S r k
abbrev xA {ρ:Type} (S:St) (n:Nat) (a i:AV) (k:AV→Option ρ):Option ρ:=pk (pindex n a i S) S k
abbrev xL {ρ:Type} (S:St) (n:Nat) (a i:AV) (k:AV→Option ρ):Option ρ:=xA S n a i fun r=>lA S r n k
abbrev xF {ρ:Type} (S:St) (n:Nat) (a i:AV) (o c:Nat) (k:AV→Option ρ):Option ρ:=xA S n a i fun r=>fL S r o c k
abbrev bA {ρ:Type} (S:St) (o:BinOp) (t:Nat) (a b:AV) (k:AV→Option ρ):Option ρ:=pk (abin PP o t a b) S k
abbrev dA {ρ:Type} (S:St) (o:BinOp) (t:Nat) (a b:AV) (k:AV→Option ρ):Option ρ:=pk (bin2 PP o t a b) S k
abbrev iB {ρ:Type} (S:St) (o:BinOp) (t:Nat) (a b:AV) (x y:Option ρ):Option ρ:=bA S o t a b fun r=>ifA r x y
abbrev iD {ρ:Type} (S:St) (o:BinOp) (t:Nat) (a b:AV) (x y:Option ρ):Option ρ:=dA S o t a b fun r=>ifA r x y
abbrev iN {ρ:Type} (S:St) (a:AV) (x y:Option ρ):Option ρ:=pk (aun .not a) S fun r=>ifA r x y
abbrev cA {ρ:Type} (S:St) (run:RunT) (g:FuncId) (l:List AV) (k:AV→Option ρ):Option ρ:=pq (call0 run g l S) k
abbrev bo {ρ:Type} (x:Option AOut) (n:List AV→St→Option ρ) (e:Nat→List AV→St→Option ρ) (r:List AV→St→Option ρ):Option ρ:=x.bind fun
  | .norm l S=>n l S
  | .exit i l S=>e i l S
  | .ret l S=>r l S
abbrev bl {ρ:Type} (x:Option AOut) (e:Nat→List AV→St→Option ρ) (r:List AV→St→Option ρ):Option ρ:=bo x (fun _ _=>none) e r
abbrev bn {ρ:Type} (x:Option AOut) (n:List AV→St→Option ρ) (r:List AV→St→Option ρ):Option ρ:=bo x n (fun _ _ _=>none) r
@[irreducible] noncomputable def R (N d:Nat):FuncId→List AV→St→Option (AV×St):=arun (cfg N) d
abbrev B1:=Cfg→RunT→AV→St→OA
abbrev E1 (g:FuncId) (b:B1):Prop:=∀ (N d:Nat) (a0:AV) (S:St),R N (d + 1) g [a0] S = b (cfg N) (R N d) a0 S
abbrev B2:=Cfg→RunT→AV→AV→St→OA
abbrev E2 (g:FuncId) (b:B2):Prop:=∀ (N d:Nat) (a0 a1:AV) (S:St),R N (d + 1) g [a0,a1] S = b (cfg N) (R N d) a0 a1 S
abbrev B4:=Cfg→RunT→AV→AV→AV→AV→St→OA
abbrev E4 (g:FuncId) (b:B4):Prop:=∀ (N d:Nat) (a0 a1 a2 a3:AV) (S:St),R N (d + 1) g [a0,a1,a2,a3] S = b (cfg N) (R N d) a0 a1 a2 a3 S
abbrev C1:=Cfg→RunT→AV→List AV→St→Option AOut
abbrev C2:=Cfg→RunT→AV→AV→List AV→St→Option AOut
abbrev C3:=Cfg→RunT→AV→AV→AV→List AV→St→Option AOut
abbrev C4:=Cfg→RunT→AV→AV→AV→AV→List AV→St→Option AOut
def s14_0:C2:=fun C run a0 a1 l S=>pk (slen a0) S fun r2=>iD S .leq 3 (gd l 2) r2 ((bo (pk (slen a0) S fun r4=>dA S .eql 3 (gd l 2) r4 fun r5=>guardA r5 false (pk (sindex a0 (gd l 2)) S fun r6=>iD S .eql 5 r6 a1 (pq (sliceS a0 (some (gd l 1)) (some (gd l 2)) none S) fun r8=>pq (quietS (abuildS PP 22 1 [(0,r8)] S) S) fun r9=>pe (appA 1 16 (gd l 0) r9 S) fun r10 S10=>bA S10 .add 3 (gd l 2) Z1 fun r11=>nO [r10,r11] S10) (nO [gd l 0,gd l 1] S)) (pq (sliceS a0 (some (gd l 1)) (some (gd l 2)) none S) fun r12=>pq (quietS (abuildS PP 22 1 [(0,r12)] S) S) fun r13=>pe (appA 1 16 (gd l 0) r13 S) fun r14 S14=>bA S14 .add 3 (gd l 2) Z1 fun r15=>nO [r14,r15] S14)) (fun l16 S16=>bA S16 .add 3 (gd l 2) Z1 fun r17=>nO [gd l16 0,gd l16 1,r17] S16) (fun x16 l16 S16=>eO x16 [gd l16 0,gd l16 1,gd l 2] S16) (fun l16 S16=>rO [gd l16 0,gd l16 1,gd l 2] S16))) (eO 0 [gd l 0,gd l 1,gd l 2] S)
def b14:B2:=fun C run a0 a1 S=>pq (quietS (abuildS PP 22 0 [] S) S) fun r1=>bl (aloop (s14_0 C run a0 a1) C.N [r1,.int .i64 0,.int .i64 0] S) (fun x18 l18 S18=>if x18 = 0 then (some (gd l18 0,S18)) else none) (fun _ S18=>some (N0,S18))
theorem t14:E2 14 b14:=fun _ _ _ _ _=>by unfold R; kernel_rfl
def s9_0:C1:=fun C run r2 l S=>nA S r2 fun r3=>iD S .lss 3 (gd l 1) r3 ((bo (xA S 1 r2 (gd l 1) fun r5=>l1 S r5 fun r6=>iB S .neq 9 r6 (AV.str ⟨#[]⟩) (xA S 1 r2 (gd l 1) fun r8=>l1 S r8 fun r9=>pq (quietS (abuildS PP 22 1 [(0,r9)] S) S) fun r10=>pe (appA 1 16 (gd l 0) r10 S) fun r11 S11=>nO [r11] S11) (nO [gd l 0] S)) (fun l12 S12=>bA S12 .add 3 (gd l 1) Z1 fun r13=>nO [gd l12 0,r13] S12) (fun x12 l12 S12=>eO x12 [gd l12 0,gd l 1] S12) (fun l12 S12=>rO [gd l12 0,gd l 1] S12))) (eO 0 [gd l 0,gd l 1] S)
def b9:B1:=fun C run a0 S=>pq (quietS (abuildS PP 22 0 [] S) S) fun r1=>cA S run 14 [a0,AV.int .u8 32] fun r2=>bl (aloop (s9_0 C run r2) C.N [r1,.int .i64 0] S) (fun x14 l14 S14=>if x14 = 0 then (some (gd l14 0,S14)) else none) (fun _ S14=>some (N0,S14))
theorem t9:E1 9 b9:=fun _ _ _ _=>by unfold R; kernel_rfl
def b4:B1:=fun C run a0 S=>pe (some (newBox S [.int .i64 0,N0])) fun r1 S1=>cA S1 run 9 [a0] fun r2=>pk (abuild PP 24 [(1,r2)]) S1 fun r3=>pe (storeA 2 r1 r3 S1) fun r4 S4=>(ldA S4 r1 2).map (·,S4)
theorem t4:E1 4 b4:=fun _ _ _ _=>by unfold R; kernel_rfl
def b17:B1:=fun C run a0 S=>bA S .eql 9 a0 (AV.str ⟨#[]⟩) fun r1=>some (r1,S)
theorem t17:E1 17 b17:=fun _ _ _ _=>by unfold R; kernel_rfl
def s19_0:C3:=fun C run a0 a1 r1 l S=>iD S .lss 3 (gd l 1) r1 (xA S 1 a0 (gd l 1) fun r3=>l1 S r3 fun r4=>pe (callV C run 19 a1 [r4] S) fun r5 S5=>ifA r5 (rO [gd l 1,gd l 1] S5) (bA S5 .add 3 (gd l 1) Z1 fun r6=>nO [gd l 0,r6] S5)) (eO 0 [gd l 0,gd l 1] S)
def b19:B2:=fun C run a0 a1 S=>nA S a0 fun r1=>bl (aloop (s19_0 C run a0 a1 r1) C.N [.int .i64 0,.int .i64 0] S) (fun x7 _ S7=>if x7 = 0 then (some (.int .i64 (-1),S7)) else none) (fun l7 S7=>some (gd l7 0,S7))
theorem t19:E2 19 b19:=fun _ _ _ _ _=>by unfold R; kernel_rfl
def s15_0:C2:=fun C run a0 a1 l S=>nA S a0 fun r4=>iD S .lss 3 (gd l 1) r4 ((bo (xA S 1 a0 (gd l 1) fun r6=>l1 S r6 fun r7=>pe (callV C run 15 a1 [r7] S) fun r8 S8=>iN S8 r8 (xA S8 1 a0 (gd l 0) fun r10=>pe (storeA 1 r10 r7 S8) fun r11 S11=>bA S11 .add 3 (gd l 0) Z1 fun r12=>nO [r12] S11) (nO [gd l 0] S8)) (fun l13 S13=>bA S13 .add 3 (gd l 1) Z1 fun r14=>nO [gd l13 0,r14] S13) (fun x13 l13 S13=>eO x13 [gd l13 0,gd l 1] S13) (fun l13 S13=>rO [gd l13 0,gd l 1] S13))) (eO 0 [gd l 0,gd l 1] S)
def b15:B2:=fun C run a0 a1 S=>cA S run 19 [a0,a1] fun r1=>iB S .eql 3 r1 (.int .i64 (-1)) (some (a0,S)) (bA S .add 3 r1 Z1 fun r3=>bl (aloop (s15_0 C run a0 a1) C.N [r1,r3] S) (fun x15 l15 S15=>if x15 = 0 then (pq (sliceA 1 a0 (some ((gd l15 0))) none none S15) fun r16=>pe (aclear PP 22 r16 S15) fun r17 S17=>pq (sliceA 1 a0 none (some ((gd l15 0))) none S17) fun r18=>some (r18,S17)) else none) (fun _ S15=>some (N0,S15)))
theorem t15:E2 15 b15:=fun _ _ _ _ _=>by unfold R; kernel_rfl
theorem t22 (N d:Nat) (a0 a1:AV) (S:St):R N (d + 1) 22 [a0,a1] S = extSB ext22 [a0,a1] S:=by unfold R; kernel_rfl
theorem t23 (N d:Nat) (a0 a1:AV) (S:St):R N (d + 1) 23 [a0,a1] S = extSB ext23 [a0,a1] S:=by unfold R; kernel_rfl
def s20_0:C4:=fun C run a1 a2 r11 r12 l S=>iD S .lss 3 (gd l 1) r12 (cA S run 23 [gd l 0,a1] fun r14=>iB S .lss 3 r14 Z0 (eO 0 [gd l 0,gd l 1] S) (dA S .add 3 r14 a2 fun r16=>pq (sliceS (gd l 0) none (some r16) none S) fun r17=>xA S 1 r11 (gd l 1) fun r18=>pe (storeA 1 r18 r17 S) fun r19 S19=>pk (slen a1) S19 fun r20=>dA S19 .add 3 r14 r20 fun r21=>pq (sliceS (gd l 0) (some r21) none none S19) fun r22=>bA S19 .add 3 (gd l 1) Z1 fun r23=>nO [r22,r23] S19)) (eO 0 [gd l 0,gd l 1] S)
def b20:B4:=fun C run a0 a1 a2 a3 S=>iB S .eql 3 a3 Z0 (some (N0,S)) (iB S .eql 9 a1 (AV.str ⟨#[]⟩) (cA S run 21 [a0,a3] fun r3=>some (r3,S)) ((bn (iB S .lss 3 a3 Z0 (cA S run 22 [a0,a1] fun r5=>bA S .add 3 r5 Z1 fun r6=>nO [r6] S) (nO [a3] S)) (fun l7 S7=>pk (slen a0) S7 fun r8=>bA S7 .add 3 r8 Z1 fun r9=>pk (amax true [gd l7 0,r9]) S7 fun r10=>pe (amake PP 22 r10 r10 S7) fun r11 S11=>bA S11 .sub 3 r10 Z1 fun r12=>bl (aloop (s20_0 C run a1 a2 r11 r12) C.N [a0,.int .i64 0] S11) (fun x24 l24 S24=>if x24 = 0 then (xA S24 1 r11 ((gd l24 1)) fun r25=>pe (storeA 1 r25 ((gd l24 0)) S24) fun r26 S26=>bA S26 .add 3 ((gd l24 1)) Z1 fun r27=>pq (sliceA 1 r11 none (some r27) none S26) fun r28=>some (r28,S26)) else none) (fun _ S24=>some (N0,S24))) (fun _ S7=>some (N0,S7)))))
theorem t20:E4 20 b20:=fun _ _ _ _ _ _ _=>by unfold R; kernel_rfl
def b16:B2:=fun C run a0 a1 S=>pe (call1 run 20 [a0,a1,.int .i64 0,.int .i64 (-1)] S) fun r1 S1=>some (r1,S1)
theorem t16:E2 16 b16:=fun _ _ _ _ _=>by unfold R; kernel_rfl
def b10:B1:=fun C run a0 S=>pe (call1 run 16 [a0,AV.str ⟨#[32]⟩] S) fun r1 S1=>pe (callS run 15 [r1,AV.fn 17 []] S1) fun r2 S2=>some (r2,S2)
theorem t10:E1 10 b10:=fun _ _ _ _=>by unfold R; kernel_rfl
def b5:B1:=fun C run a0 S=>pe (some (newBox S [.int .i64 0,N0])) fun r1 S1=>pe (call1 run 10 [a0] S1) fun r2 S2=>pk (abuild PP 24 [(1,r2)]) S2 fun r3=>pe (storeA 2 r1 r3 S2) fun r4 S4=>(ldA S4 r1 2).map (·,S4)
theorem t5:E1 5 b5:=fun _ _ _ _=>by unfold R; kernel_rfl
def s11_0:C2:=fun C run a0 a1 l S=>nA S a0 fun r4=>iD S .lss 3 (gd l 1) r4 (xA S 1 a0 (gd l 1) fun r6=>l1 S r6 fun r7=>xA S 1 a1 (gd l 1) fun r8=>l1 S r8 fun r9=>iD S .neq 9 r7 r9 (rO [AV.bool false,gd l 1] S) (bA S .add 3 (gd l 1) Z1 fun r11=>nO [gd l 0,r11] S)) (eO 0 [gd l 0,gd l 1] S)
def b11:B2:=fun C run a0 a1 S=>nA S a0 fun r1=>nA S a1 fun r2=>iD S .neq 3 r1 r2 (some (.bool false,S)) ((bl (aloop (s11_0 C run a0 a1) C.N [AV.bool false,.int .i64 0] S) (fun x12 _ S12=>if x12 = 0 then (some (.bool true,S12)) else none) (fun l12 S12=>some (gd l12 0,S12))))
theorem t11:E2 11 b11:=fun _ _ _ _ _=>by unfold R; kernel_rfl
def b6:B2:=fun C run a0 a1 S=>pe (boxA a0 S) fun r1 S1=>pe (boxA a1 S1) fun r2 S2=>fL S2 r1 0 1 fun r4=>fL S2 r2 0 1 fun r6=>iD S2 .neq 2 r4 r6 (some (.bool false,S2)) (fL S2 r1 1 1 fun r9=>fL S2 r2 1 1 fun r11=>cA S2 run 11 [r9,r11] fun r12=>iN S2 r12 (some (.bool false,S2)) (some (.bool true,S2)))
theorem t6:E2 6 b6:=fun _ _ _ _ _=>by unfold R; kernel_rfl
def s18_0 (C:Cfg) (run:RunT) (l:List AV) (S:St):Option AOut:=iB S .gtr 3 (gd l 0) Z0 (bA S .rem 3 (gd l 0) (.int .i64 10) fun r3=>bA S .add 3 (.int .i64 48) r3 fun r4=>pk (aconv PP 3 5 r4 S) S fun r5=>pq (quietS (abuildS PP 38 1 [(0,r5)] S) S) fun r6=>pk (aconv PP 38 9 r6 S) S fun r7=>dA S .add 9 r7 (gd l 1) fun r8=>bA S .quo 3 (gd l 0) (.int .i64 10) fun r9=>nO [r9,r8] S) (eO 0 [gd l 0,gd l 1] S)
def b18:B1:=fun C run a0 S=>iB S .leq 3 a0 Z0 (some (AV.str ⟨#[109,48]⟩,S)) ((bl (aloop (s18_0 C run) C.N [a0,AV.str ⟨#[]⟩] S) (fun x10 l10 S10=>if x10 = 0 then (bA S10 .add 9 (AV.str ⟨#[109]⟩) ((gd l10 1)) fun r11=>some (r11,S10)) else none) (fun _ S10=>some (AV.str ⟨#[]⟩,S10))))
theorem t18:E1 18 b18:=fun _ _ _ _=>by unfold R; kernel_rfl
def s12_0:C1:=fun C run a0 l S=>nA S a0 fun r1=>iD S .lss 3 (gd l 1) r1 (cA S run 18 [gd l 0] fun r3=>xA S 1 a0 (gd l 1) fun r4=>pe (storeA 1 r4 r3 S) fun r5 S5=>bA S5 .add 3 (gd l 0) Z1 fun r6=>bA S5 .add 3 (gd l 1) Z1 fun r7=>nO [r6,r7] S5) (eO 0 [gd l 0,gd l 1] S)
def b12:B2:=fun C run a0 a1 S=>bl (aloop (s12_0 C run a0) C.N [a1,.int .i64 0] S) (fun x8 l8 S8=>if x8 = 0 then (some (gd l8 0,S8)) else none) (fun _ S8=>some (.int .i64 0,S8))
theorem t12:E2 12 b12:=fun _ _ _ _ _=>by unfold R; kernel_rfl
def b7:B2:=fun C run a0 a1 S=>pe (boxA a0 S) fun r1 S1=>fL S1 r1 1 1 fun r3=>pe (callS run 12 [r3,a1] S1) fun r4 S4=>some (r4,S4)
theorem t7:E2 7 b7:=fun _ _ _ _ _=>by unfold R; kernel_rfl
def s13_0:C1:=fun C run a0 l S=>nA S a0 fun r1=>iD S .lss 3 (gd l 2) r1 (xA S 1 a0 (gd l 2) fun r3=>l1 S r3 fun r4=>cA S run 18 [gd l 0] fun r5=>iD S .neq 9 r4 r5 (rO [gd l 0,.int .i64 (-1),gd l 2] S) (bA S .add 3 (gd l 0) Z1 fun r7=>bA S .add 3 (gd l 2) Z1 fun r8=>nO [r7,gd l 1,r8] S)) (eO 0 [gd l 0,gd l 1,gd l 2] S)
def b13:B2:=fun C run a0 a1 S=>bl (aloop (s13_0 C run a0) C.N [a1,.int .i64 0,.int .i64 0] S) (fun x9 l9 S9=>if x9 = 0 then (some (gd l9 0,S9)) else none) (fun l9 S9=>some (gd l9 1,S9))
theorem t13:E2 13 b13:=fun _ _ _ _ _=>by unfold R; kernel_rfl
def b8:B2:=fun C run a0 a1 S=>pe (boxA a0 S) fun r1 S1=>fL S1 r1 1 1 fun r3=>cA S1 run 13 [r3,a1] fun r4=>iB S1 .lss 3 r4 Z0 (some (.int .i64 (-1),S1)) (some (r4,S1))
theorem t8:E2 8 b8:=fun _ _ _ _ _=>by unfold R; kernel_rfl
def b3:B1:=fun C run a0 S=>pk (slen a0) S fun r1=>iB S .gtr 3 r1 (.int .i64 1048576) (some (.bool true,S)) (cA S run 4 [a0] fun r3=>pe (some (newBox S [.int .i64 0,N0])) fun r4 S4=>pe (storeA 2 r4 r3 S4) fun r5 S5=>pe (call1 run 5 [a0] S5) fun r6 S6=>pe (some (newBox S6 [.int .i64 0,N0])) fun r7 S7=>pe (storeA 2 r7 r6 S7) fun r8 S8=>lA S8 r7 2 fun r9=>lA S8 r4 2 fun r10=>cA S8 run 6 [r9,r10] fun r11=>iN S8 r11 (some (.bool false,S8)) (lA S8 r7 2 fun r13=>pe (callS run 7 [r13,.int .i64 1] S8) fun r14 S14=>lA S14 r7 2 fun r15=>cA S14 run 8 [r15,.int .i64 1] fun r16=>iB S14 .lss 3 r16 Z0 (some (.bool false,S14)) (iD S14 .neq 3 r16 r14 (some (.bool false,S14)) (pe (call1 run 5 [a0] S14) fun r19 S19=>pe (some (newBox S19 [.int .i64 0,N0])) fun r20 S20=>pe (storeA 2 r20 r19 S20) fun r21 S21=>lA S21 r20 2 fun r22=>lA S21 r4 2 fun r23=>cA S21 run 6 [r22,r23] fun r24=>iN S21 r24 (some (.bool false,S21)) (lA S21 r7 2 fun r26=>cA S21 run 8 [r26,.int .i64 1] fun r27=>iB S21 .lss 3 r27 Z0 (some (.bool false,S21)) (iD S21 .neq 3 r27 r14 (some (.bool false,S21)) (some (.bool true,S21))))))))
theorem t3:E1 3 b3:=fun _ _ _ _=>by unfold R; kernel_rfl
end
end Go.Proofs.YtifocmbeahpopaaDoor
