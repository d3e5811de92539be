/- Plain functions, and that the evaluator computes them. -/
import Derived.Test.YtodfmofjncmdfaaT
import Derived.Test.YtodfmofjncmdfaaRh6
import Derived.Test.YtodfmofjncmdfaaRh10
namespace Go.Proofs.Ytodfmofjncmdfaa
open Go Go.Rf
set_option linter.unusedVariables false
set_option linter.unusedSimpArgs false
noncomputable section
structure TReplica where
  Id : Int
  View : Int
  Start : Int
  Done : Int
  deriving DecidableEq
instance : Enc TReplica := (Enc.of fun x : TReplica => (x.Id, x.View, x.Start, x.Done)).copy (fun l x => [.int .i64 x.Id, .int .i64 x.View, .int .i64 x.Start, .int .i64 x.Done]) (fun _ _ => rfl) 4 0 rfl rfl
instance : Tr TReplica := Tr.of (fun x : TReplica => (x.Id, x.View, x.Start, x.Done)) (fun _ _ => rfl) rfl rfl
structure TCert where
  Slot : Int
  View : Int
  Value : Int
  deriving DecidableEq
instance : Enc TCert := (Enc.of fun x : TCert => (x.Slot, x.View, x.Value)).copy (fun l x => [.int .i64 x.Slot, .int .i64 x.View, .int .i64 x.Value]) (fun _ _ => rfl) 3 0 rfl rfl
instance : Tr TCert := Tr.of (fun x : TCert => (x.Slot, x.View, x.Value)) (fun _ _ => rfl) rfl rfl
structure TMsg where
  Kind : Int
  View : Int
  From : Int
  Slot : Int
  Value : Int
  Certs : List TCert
  Refs : List Int
  deriving DecidableEq
instance : Enc TMsg := (Enc.of fun x : TMsg => (x.Kind, x.View, x.From, x.Slot, x.Value, x.Certs, x.Refs)).copy (fun l x => [.int .i64 x.Kind, .int .i64 x.View, .int .i64 x.From, .int .i64 x.Slot, .int .i64 x.Value, .rsl l false (x.Certs.map (Enc.cs l)), .rsl l false (x.Refs.map (Enc.cs l))]) (fun _ _ => rfl) 7 1 rfl rfl
instance : Tr TMsg := Tr.of (fun x : TMsg => (x.Kind, x.View, x.From, x.Slot, x.Value, x.Certs, x.Refs)) (fun _ _ => rfl) rfl rfl
structure TOp where
  Kind : Int
  Path : Str
  Data : Int
  Version : Int
  Seq : Bool
  Own : Bool
  deriving DecidableEq
instance : Enc TOp := (Enc.of fun x : TOp => (x.Kind, x.Path, x.Data, x.Version, x.Seq, x.Own)).copy (fun l x => [.int .i64 x.Kind, encS x.Path, .int .i64 x.Data, .int .i64 x.Version, .bool x.Seq, .bool x.Own]) (fun _ _ => rfl) 6 0 rfl rfl
instance : Tr TOp := Tr.of (fun x : TOp => (x.Kind, x.Path, x.Data, x.Version, x.Seq, x.Own)) (fun _ _ => rfl) rfl rfl
structure TRequest where
  Client : Int
  Number : Int
  Time : Int
  Ops : List TOp
  deriving DecidableEq
instance : Enc TRequest := (Enc.of fun x : TRequest => (x.Client, x.Number, x.Time, x.Ops)).copy (fun l x => [.int .i64 x.Client, .int .i64 x.Number, .int .i64 x.Time, .rsl l false (x.Ops.map (Enc.cs l))]) (fun _ _ => rfl) 4 1 rfl rfl
instance : Tr TRequest := Tr.of (fun x : TRequest => (x.Client, x.Number, x.Time, x.Ops)) (fun _ _ => rfl) rfl rfl
structure TCluster where
  F : Int
  Bad : List Int
  Replicas : List TReplica
  Ledger : List TMsg
  Requests : List TRequest
  deriving DecidableEq
instance : Enc TCluster := (Enc.of fun x : TCluster => (x.F, x.Bad, x.Replicas, x.Ledger, x.Requests)).copy (fun l x => [.int .i64 x.F, .rsl l false (x.Bad.map (Enc.cs l)), .rsl l false (x.Replicas.map (Enc.cs l)), .rsl l false (x.Ledger.map (Enc.cs l)), .rsl l false (x.Requests.map (Enc.cs l))]) (fun _ _ => rfl) 5 2 rfl rfl
instance : Tr TCluster := Tr.of (fun x : TCluster => (x.F, x.Bad, x.Replicas, x.Ledger, x.Requests)) (fun _ _ => rfl) rfl rfl
structure TClusterResult where
  Code : Int
  Cluster : TCluster
  deriving DecidableEq
instance : Enc TClusterResult := (Enc.of fun x : TClusterResult => (x.Code, x.Cluster)).copy (fun l x => [.int .i64 x.Code, .int .i64 x.Cluster.F, .rsl l false (x.Cluster.Bad.map (Enc.cs l)), .rsl l false (x.Cluster.Replicas.map (Enc.cs l)), .rsl l false (x.Cluster.Ledger.map (Enc.cs l)), .rsl l false (x.Cluster.Requests.map (Enc.cs l))]) (fun _ _ => rfl) 6 2 rfl rfl
instance : Tr TClusterResult := Tr.of (fun x : TClusterResult => (x.Code, x.Cluster)) (fun _ _ => rfl) rfl rfl
theorem bneq42 (x y : Bool) : bin2 Try.prog .neq 4 (.bool x) (.bool y) = some (.bool (x != y)) := beq_neq2 (P := Try.prog) (t := 4) (by kernel_rfl)
theorem bd48_0_1 {x0 x1 r : AV} (hr : (afill (plc [(0, 1), (1, 1), (2, 1), (3, 1), (4, 1)]) [.int .i64 0, .rsl false true [], .rsl false true [], .rsl false true [], .rsl false true []] [(0, x0), (1, x1)]).map AV.agg = some r) : abuild Try.prog 48 [(0, x0), (1, x1)] = some r := Eq.trans (by kernel_rfl) hr
theorem bd50_0 {x0 r : AV} (hr : (afill (plc [(0, 1), (1, 5)]) [.int .i64 0, .int .i64 0, .rsl false true [], .rsl false true [], .rsl false true [], .rsl false true []] [(0, x0)]).map AV.agg = some r) : abuild Try.prog 50 [(0, x0)] = some r := Eq.trans (by kernel_rfl) hr
theorem bd50_1 {x1 r : AV} (hr : (afill (plc [(0, 1), (1, 5)]) [.int .i64 0, .int .i64 0, .rsl false true [], .rsl false true [], .rsl false true [], .rsl false true []] [(1, x1)]).map AV.agg = some r) : abuild Try.prog 50 [(1, x1)] = some r := Eq.trans (by kernel_rfl) hr
theorem bd94_0_2 {x0 x2 r : AV} (hr : (afill (plc [(0, 1), (1, 1), (2, 1), (3, 1)]) [.int .i64 0, .int .i64 0, .int .i64 0, .int .i64 0] [(0, x0), (2, x2)]).map AV.agg = some r) : abuild Try.prog 94 [(0, x0), (2, x2)] = some r := Eq.trans (by kernel_rfl) hr
theorem bs137_1 {x0 r : AV} {S : St} (hr : (aparts 1 0 [(0, x0)]).map (fun es => mkS 1 es S) = some (r, S)) : abuildS Try.prog 137 1 [(0, x0)] S = some (r, S) := Eq.trans (by kernel_rfl) hr
theorem bs24_0 (S : St) : abuildS Try.prog 24 0 [] S = some (.rsl false true [], S) := by kernel_rfl
theorem bs24_1 {x0 r : AV} {S : St} (hr : (aparts 1 0 [(0, x0)]).map (fun es => mkS 1 es S) = some (r, S)) : abuildS Try.prog 24 1 [(0, x0)] S = some (r, S) := Eq.trans (by kernel_rfl) hr
theorem bs45_1 {x0 r : AV} {S : St} (hr : (aparts 4 0 [(0, x0)]).map (fun es => mkS 4 es S) = some (r, S)) : abuildS Try.prog 45 1 [(0, x0)] S = some (r, S) := Eq.trans (by kernel_rfl) hr
theorem cvt3_5 (n : Int) (S : St) : aconv Try.prog 3 5 (.int .i64 n) S = some (.int .u8 (wi .u8 n)) := by kernel_rfl
theorem cvb137_9 (n : Int) (S : St) : aconv Try.prog 137 9 (.rsl false true [[.int .u8 n]]) S = some (encS [UInt8.ofNat n.toNat]) := by kernel_rfl
theorem fo149_Ops : Fo (α := TRequest) (γ := List TOp) 3 (fun x => x.Ops) (fun y x => { x with Ops := y }) := fun S i c x h => ((fo_snd (fo_snd (fo_snd fo_self))) : Fo (α := Int × Int × Int × (List TOp)) (γ := List TOp) 3 _ _) S i c (x.Client, x.Number, x.Time, x.Ops) h
theorem fo36_Certs : Fo (α := TMsg) (γ := List TCert) 5 (fun x => x.Certs) (fun y x => { x with Certs := y }) := fun S i c x h => ((fo_snd (fo_snd (fo_snd (fo_snd (fo_snd (fo_fst fo_self)))))) : Fo (α := Int × Int × Int × Int × Int × (List TCert) × (List Int)) (γ := List TCert) 5 _ _) S i c (x.Kind, x.View, x.From, x.Slot, x.Value, x.Certs, x.Refs) h
theorem fo36_Refs : Fo (α := TMsg) (γ := List Int) 6 (fun x => x.Refs) (fun y x => { x with Refs := y }) := fun S i c x h => ((fo_snd (fo_snd (fo_snd (fo_snd (fo_snd (fo_snd fo_self)))))) : Fo (α := Int × Int × Int × Int × Int × (List TCert) × (List Int)) (γ := List Int) 6 _ _) S i c (x.Kind, x.View, x.From, x.Slot, x.Value, x.Certs, x.Refs) h
theorem fo48_Bad : Fo (α := TCluster) (γ := List Int) 1 (fun x => x.Bad) (fun y x => { x with Bad := y }) := fun S i c x h => ((fo_snd (fo_fst fo_self)) : Fo (α := Int × (List Int) × (List TReplica) × (List TMsg) × (List TRequest)) (γ := List Int) 1 _ _) S i c (x.F, x.Bad, x.Replicas, x.Ledger, x.Requests) h
theorem fo48_Ledger : Fo (α := TCluster) (γ := List TMsg) 3 (fun x => x.Ledger) (fun y x => { x with Ledger := y }) := fun S i c x h => ((fo_snd (fo_snd (fo_snd (fo_fst fo_self)))) : Fo (α := Int × (List Int) × (List TReplica) × (List TMsg) × (List TRequest)) (γ := List TMsg) 3 _ _) S i c (x.F, x.Bad, x.Replicas, x.Ledger, x.Requests) h
theorem fo48_Replicas : Fo (α := TCluster) (γ := List TReplica) 2 (fun x => x.Replicas) (fun y x => { x with Replicas := y }) := fun S i c x h => ((fo_snd (fo_snd (fo_fst fo_self))) : Fo (α := Int × (List Int) × (List TReplica) × (List TMsg) × (List TRequest)) (γ := List TReplica) 2 _ _) S i c (x.F, x.Bad, x.Replicas, x.Ledger, x.Requests) h
theorem fo48_Requests : Fo (α := TCluster) (γ := List TRequest) 4 (fun x => x.Requests) (fun y x => { x with Requests := y }) := fun S i c x h => ((fo_snd (fo_snd (fo_snd (fo_snd fo_self)))) : Fo (α := Int × (List Int) × (List TReplica) × (List TMsg) × (List TRequest)) (γ := List TRequest) 4 _ _) S i c (x.F, x.Bad, x.Replicas, x.Ledger, x.Requests) h
theorem fo50_Cluster : Fo (α := TClusterResult) (γ := TCluster) 1 (fun x => x.Cluster) (fun y x => { x with Cluster := y }) := fun S i c x h => ((fo_snd fo_self) : Fo (α := Int × TCluster) (γ := TCluster) 1 _ _) S i c (x.Code, x.Cluster) h
theorem mk24 (S : St) (n : Nat) (h : (n + 1) * (8 + 1) ≤ 70368744177664) : amake Try.prog 24 (.int .i64 n) (.int .i64 n) S = some (.bsl S.length 0 n n true, S ++ [⟨1, List.replicate n [.int .i64 0], true⟩]) :=
  amake_ok (e := 2) (sz := 1) (by_ := 8) (z := [.int .i64 0]) (z0 := [.int .i64 0]) (by kernel_rfl) (by kernel_rfl) (by kernel_rfl) rfl rfl (by omega) rfl rfl h
theorem plt2 {l : Bool} (S : St) (x : Int) : Tr.ow S [] (Enc.cs l x) x := pl_int x
theorem plsTReplica {S : St} {l : Bool} (x : TReplica) : Tr.ow S [] (Enc.cs l x) x := (pl_pair pl_int (pl_pair pl_int (pl_pair pl_int pl_int)) _ : Tr.ow (α := Int × Int × Int × Int) S [] (Enc.cs l _) (x.Id, x.View, x.Start, x.Done))
theorem plt94 {l : Bool} (S : St) (x : TReplica) : Tr.ow S [] (Enc.cs l x) x := plsTReplica x
theorem trx50 {S : St} {ids : List Nat} {cs : List AV} {x : TClusterResult} (h : Tr.ow S ids cs x) : ∃ v0 v1 v2 v3 : AV, cs = [.int .i64 x.Code, .int .i64 x.Cluster.F, v0, v1, v2, v3] := by
  obtain ⟨_, _, _, _, rfl, _, rfl, ⟨rfl, rfl⟩, ⟨_, _, _, _, rfl, _, rfl, ⟨rfl, rfl⟩, ⟨_, _, _, _, rfl, _, rfl, ⟨v0, rfl, _⟩, ⟨_, _, _, _, rfl, _, rfl, ⟨v1, rfl, _⟩, ⟨_, _, _, _, rfl, _, rfl, ⟨v2, rfl, _⟩, ⟨v3, rfl, _⟩⟩⟩⟩⟩⟩ := h
  exact ⟨_, _, _, _, rfl⟩
theorem und24 : Try.prog.underlying 24 = some (.slice 2) := by kernel_rfl
theorem up115_Slot (n : Int) : Up (α := TCert) 0 (.int .i64 n) (fun x => { x with Slot := n }) := (up_of (α := TCert) (β := Int × Int × Int) (f := fun x => (x.Slot, x.View, x.Value)) (v := fun x => { x with Slot := n }) (up_fst (up_int (n := n))) rfl (fun _ => rfl))
theorem up115_Value (n : Int) : Up (α := TCert) 2 (.int .i64 n) (fun x => { x with Value := n }) := (up_of (α := TCert) (β := Int × Int × Int) (f := fun x => (x.Slot, x.View, x.Value)) (v := fun x => { x with Value := n }) (up_snd (up_snd (up_int (n := n)))) rfl (fun _ => rfl))
theorem up115_View (n : Int) : Up (α := TCert) 1 (.int .i64 n) (fun x => { x with View := n }) := (up_of (α := TCert) (β := Int × Int × Int) (f := fun x => (x.Slot, x.View, x.Value)) (v := fun x => { x with View := n }) (up_snd (up_fst (up_int (n := n)))) rfl (fun _ => rfl))
theorem up149_Client (n : Int) : Up (α := TRequest) 0 (.int .i64 n) (fun x => { x with Client := n }) := (up_of (α := TRequest) (β := Int × Int × Int × (List TOp)) (f := fun x => (x.Client, x.Number, x.Time, x.Ops)) (v := fun x => { x with Client := n }) (up_fst (up_int (n := n))) rfl (fun _ => rfl))
theorem up149_Number (n : Int) : Up (α := TRequest) 1 (.int .i64 n) (fun x => { x with Number := n }) := (up_of (α := TRequest) (β := Int × Int × Int × (List TOp)) (f := fun x => (x.Client, x.Number, x.Time, x.Ops)) (v := fun x => { x with Number := n }) (up_snd (up_fst (up_int (n := n)))) rfl (fun _ => rfl))
theorem up149_Time (n : Int) : Up (α := TRequest) 2 (.int .i64 n) (fun x => { x with Time := n }) := (up_of (α := TRequest) (β := Int × Int × Int × (List TOp)) (f := fun x => (x.Client, x.Number, x.Time, x.Ops)) (v := fun x => { x with Time := n }) (up_snd (up_snd (up_fst (up_int (n := n))))) rfl (fun _ => rfl))
theorem up157_Data (n : Int) : Up (α := TOp) 2 (.int .i64 n) (fun x => { x with Data := n }) := (up_of (α := TOp) (β := Int × Str × Int × Int × Bool × Bool) (f := fun x => (x.Kind, x.Path, x.Data, x.Version, x.Seq, x.Own)) (v := fun x => { x with Data := n }) (up_snd (up_snd (up_fst (up_int (n := n))))) rfl (fun _ => rfl))
theorem up157_Kind (n : Int) : Up (α := TOp) 0 (.int .i64 n) (fun x => { x with Kind := n }) := (up_of (α := TOp) (β := Int × Str × Int × Int × Bool × Bool) (f := fun x => (x.Kind, x.Path, x.Data, x.Version, x.Seq, x.Own)) (v := fun x => { x with Kind := n }) (up_fst (up_int (n := n))) rfl (fun _ => rfl))
theorem up157_Own (n : Bool) : Up (α := TOp) 5 (.bool n) (fun x => { x with Own := n }) := (up_of (α := TOp) (β := Int × Str × Int × Int × Bool × Bool) (f := fun x => (x.Kind, x.Path, x.Data, x.Version, x.Seq, x.Own)) (v := fun x => { x with Own := n }) (up_snd (up_snd (up_snd (up_snd (up_snd (up_bool (n := n))))))) rfl (fun _ => rfl))
theorem up157_Path (n : Str) : Up (α := TOp) 1 (encS n) (fun x => { x with Path := n }) := (up_of (α := TOp) (β := Int × Str × Int × Int × Bool × Bool) (f := fun x => (x.Kind, x.Path, x.Data, x.Version, x.Seq, x.Own)) (v := fun x => { x with Path := n }) (up_snd (up_fst (up_str (s := n)))) rfl (fun _ => rfl))
theorem up157_Seq (n : Bool) : Up (α := TOp) 4 (.bool n) (fun x => { x with Seq := n }) := (up_of (α := TOp) (β := Int × Str × Int × Int × Bool × Bool) (f := fun x => (x.Kind, x.Path, x.Data, x.Version, x.Seq, x.Own)) (v := fun x => { x with Seq := n }) (up_snd (up_snd (up_snd (up_snd (up_fst (up_bool (n := n))))))) rfl (fun _ => rfl))
theorem up157_Version (n : Int) : Up (α := TOp) 3 (.int .i64 n) (fun x => { x with Version := n }) := (up_of (α := TOp) (β := Int × Str × Int × Int × Bool × Bool) (f := fun x => (x.Kind, x.Path, x.Data, x.Version, x.Seq, x.Own)) (v := fun x => { x with Version := n }) (up_snd (up_snd (up_snd (up_fst (up_int (n := n)))))) rfl (fun _ => rfl))
theorem up36_From (n : Int) : Up (α := TMsg) 2 (.int .i64 n) (fun x => { x with From := n }) := (up_of (α := TMsg) (β := Int × Int × Int × Int × Int × (List TCert) × (List Int)) (f := fun x => (x.Kind, x.View, x.From, x.Slot, x.Value, x.Certs, x.Refs)) (v := fun x => { x with From := n }) (up_snd (up_snd (up_fst (up_int (n := n))))) rfl (fun _ => rfl))
theorem up36_Kind (n : Int) : Up (α := TMsg) 0 (.int .i64 n) (fun x => { x with Kind := n }) := (up_of (α := TMsg) (β := Int × Int × Int × Int × Int × (List TCert) × (List Int)) (f := fun x => (x.Kind, x.View, x.From, x.Slot, x.Value, x.Certs, x.Refs)) (v := fun x => { x with Kind := n }) (up_fst (up_int (n := n))) rfl (fun _ => rfl))
theorem up36_Slot (n : Int) : Up (α := TMsg) 3 (.int .i64 n) (fun x => { x with Slot := n }) := (up_of (α := TMsg) (β := Int × Int × Int × Int × Int × (List TCert) × (List Int)) (f := fun x => (x.Kind, x.View, x.From, x.Slot, x.Value, x.Certs, x.Refs)) (v := fun x => { x with Slot := n }) (up_snd (up_snd (up_snd (up_fst (up_int (n := n)))))) rfl (fun _ => rfl))
theorem up36_Value (n : Int) : Up (α := TMsg) 4 (.int .i64 n) (fun x => { x with Value := n }) := (up_of (α := TMsg) (β := Int × Int × Int × Int × Int × (List TCert) × (List Int)) (f := fun x => (x.Kind, x.View, x.From, x.Slot, x.Value, x.Certs, x.Refs)) (v := fun x => { x with Value := n }) (up_snd (up_snd (up_snd (up_snd (up_fst (up_int (n := n))))))) rfl (fun _ => rfl))
theorem up36_View (n : Int) : Up (α := TMsg) 1 (.int .i64 n) (fun x => { x with View := n }) := (up_of (α := TMsg) (β := Int × Int × Int × Int × Int × (List TCert) × (List Int)) (f := fun x => (x.Kind, x.View, x.From, x.Slot, x.Value, x.Certs, x.Refs)) (v := fun x => { x with View := n }) (up_snd (up_fst (up_int (n := n)))) rfl (fun _ => rfl))
theorem up94_Done (n : Int) : Up (α := TReplica) 3 (.int .i64 n) (fun x => { x with Done := n }) := (up_of (α := TReplica) (β := Int × Int × Int × Int) (f := fun x => (x.Id, x.View, x.Start, x.Done)) (v := fun x => { x with Done := n }) (up_snd (up_snd (up_snd (up_int (n := n))))) rfl (fun _ => rfl))
theorem up94_Id (n : Int) : Up (α := TReplica) 0 (.int .i64 n) (fun x => { x with Id := n }) := (up_of (α := TReplica) (β := Int × Int × Int × Int) (f := fun x => (x.Id, x.View, x.Start, x.Done)) (v := fun x => { x with Id := n }) (up_fst (up_int (n := n))) rfl (fun _ => rfl))
theorem up94_Start (n : Int) : Up (α := TReplica) 2 (.int .i64 n) (fun x => { x with Start := n }) := (up_of (α := TReplica) (β := Int × Int × Int × Int) (f := fun x => (x.Id, x.View, x.Start, x.Done)) (v := fun x => { x with Start := n }) (up_snd (up_snd (up_fst (up_int (n := n))))) rfl (fun _ => rfl))
theorem up94_View (n : Int) : Up (α := TReplica) 1 (.int .i64 n) (fun x => { x with View := n }) := (up_of (α := TReplica) (β := Int × Int × Int × Int) (f := fun x => (x.Id, x.View, x.Start, x.Done)) (v := fun x => { x with View := n }) (up_snd (up_fst (up_int (n := n)))) rfl (fun _ => rfl))
def m74 (a0 : Int) (a1 : Int) (a2 : Int) : Bool :=
 bif decide (a0 ≥ a1) then
  decide (a0 ≤ a2)
 else
  false
theorem w74 {d : Nat} (hd : 1 ≤ d) (a0 : Int) (a1 : Int) (a2 : Int) : Fit (R NN d 74 [.int .i64 a0, .int .i64 a1, .int .i64 a2] []) (some (m74 a0 a1 a2)) (P0 (fun (t : Bool) => AV.bool t)) := by
  obtain ⟨d, rfl, g⟩ := up hd
  refine q_in (t74 NN d _ _ _) ?_
  unfold b74 m74
  refine q_p fr <| q_gTt (fun h1 => ?_) (fun h1 => ?_)
  ·exact q_p fr <| q_ret (cv_p rfl) rfl
  ·exact q_ret (cv_p rfl) rfl
def m52 (a0 : Int) : Bool :=
 (m74 a0 1 2)
theorem w52 {d : Nat} (hd : 2 ≤ d) (a0 : Int) : Fit (R NN d 52 [.int .i64 a0] []) (some (m52 a0)) (P0 (fun (t : Bool) => AV.bool t)) := by
  obtain ⟨d, rfl, g⟩ := up hd
  refine q_in (t52 NN d _) ?_
  unfold b52 m52
  exact q_c0t (fun S hS => argF3 (cv_p rfl) (cv_p rfl) (cv_p rfl) hS fun l0_ l1_ l2_ => w74 (by omega) a0 1 2) <| q_ret (cv_p rfl) rfl
def m53 (a0 : Int) : TClusterResult :=
 (⟨a0, (⟨0, [], [], [], []⟩ : TCluster)⟩ : TClusterResult)
theorem w53 {d : Nat} (hd : 1 ≤ d) (a0 : Int) : Fit (R NN d 53 [.int .i64 a0] []) (some (m53 a0)) (P0 (fun (t : TClusterResult) => AV.agg (Enc.cs false t))) := by
  obtain ⟨d, rfl, g⟩ := up hd
  refine q_in (t53 NN d _) ?_
  unfold b53 m53
  exact q_new rfl fun b1 => q_p (fun _ => bd50_0 rfl) <| q_st 0 rfl rfl rfl (by decide) rfl <| q_retm (fun S hS => hS.lda 0 rfl rfl) (cv_a (cvs_cons (cv_p rfl) (cvs_cons (cv_p rfl) (cvs_cons (cv_r (α := Int) (l0 := false) (fl := true) (xs := [])) (cvs_cons (cv_r (α := TReplica) (l0 := false) (fl := true) (xs := [])) (cvs_cons (cv_r (α := TMsg) (l0 := false) (fl := true) (xs := [])) (cvs_cons (cv_r (α := TRequest) (l0 := false) (fl := true) (xs := [])) cvs_nil))))))) rfl
def m75 (a0 : Int) (a1 : Int) : Bool :=
 (m74 a1 1 (wi .i64 ((wi .i64 (3 * a0)) + 1)))
theorem w75 {d : Nat} (hd : 2 ≤ d) (a0 : Int) (a1 : Int) : Fit (R NN d 75 [.int .i64 a0, .int .i64 a1] []) (some (m75 a0 a1)) (P0 (fun (t : Bool) => AV.bool t)) := by
  obtain ⟨d, rfl, g⟩ := up hd
  refine q_in (t75 NN d _ _) ?_
  unfold b75 m75
  exact q_p fr <| q_p fr <| q_c0t (fun S hS => argF3 (cv_p rfl) (cv_p rfl) (cv_p rfl) hS fun l0_ l1_ l2_ => w74 (by omega) a1 1 (wi .i64 ((wi .i64 (3 * a0)) + 1))) <| q_ret (cv_p rfl) rfl
def ms54_0 (a0 : Int) (a1 : List Int) (s1 : Int × Int) : Option (LO (Int × Int)) :=
 bif decide (s1.2 < (a1.length : Int)) then
  (
   (getI a1 s1.2).bind fun x1 =>
   bif !(m75 a0 x1) then
    some (LO.ret 3)
   else
    bif decide (s1.2 > 0) then
     (getI a1 s1.2).bind fun x2 =>
     (getI a1 (wi .i64 (s1.2 - 1))).bind fun x3 =>
     bif decide (x2 ≤ x3) then
      some (LO.ret 1)
     else
      some (LO.norm s1.1)
    else
     some (LO.norm s1.1)).bind (contO (fun s3 =>
   some (LO.norm (s3, wi .i64 (s1.2 + 1)))) (fun i1 s3 =>
   some (LO.exit i1 (s3, s1.2))) (fun s3 =>
   some (LO.ret (s3, s1.2))))
 else
  some (LO.exit 0 (s1.1, s1.2))
def m54 (a0 : Int) (a1 : List Int) : Option (Int) :=
 bif decide ((a1.length : Int) > a0) then
  some 2
 else
  (loopO (ms54_0 a0 a1) NN (0, 0)).bind (contO (fun _ => none) (fun i2 s4 =>
   if i2 = 0 then
    some 0
   else
    none) (fun s4 =>
   some s4.1))
theorem w54 {d : Nat} (hd : 3 ≤ d) (a0 : Int) (k1 : Bool) (a1 : List Int) : Fit (R NN d 54 [.int .i64 a0, .rsl k1 false (a1.map (Enc.cs k1))] []) (m54 a0 a1) (P0 (fun (t : Int) => AV.int .i64 t)) := by
  obtain ⟨d, rfl, g⟩ := up hd
  refine q_in (t54 NN d _ _) ?_
  unfold b54 m54
  refine q_len <| q_p fr <| q_if (fun h5 => ?_) (fun h5 => ?_)
  ·exact q_ret (cv_p rfl) rfl
  ·refine q_loop (I := (fun (s : Int × Int) l L => l = [.int .i64 s.1, .int .i64 s.2] ∧ L = [])) 0 ⟨rfl, rfl⟩ ?_ ?_ ?_
   ·rintro s1 _ _ ⟨rfl, rfl⟩
    unfold s54_0 ms54_0
    refine q_len <| q_p fr <| q_if (fun h4 => ?_) (fun h4 => ?_)
    ·refine q_cut (I := (fun (s : Int) l L => l = [.int .i64 s] ∧ L = [])) ?_ ?_ ?_ ?_
     ·refine q_ix rfl fun x1 hx1 => q_p fr <| q_c0t (fun S hS => argF2 (cv_p rfl) (cv_p rfl) hS fun l0_ l1_ => w75 (by omega) a0 x1) <| q_p fr <| q_if (fun h3 => ?_) (fun h3 => ?_)
      ·exact q_lret 0 ⟨rfl, rfl⟩
      ·refine q_p fr <| q_gT (fun h2 => ?_) (fun h2 => ?_)
       ·refine q_ix rfl fun x2 hx2 => q_p fr <| q_p fr <| q_ix rfl fun x3 hx3 => q_p fr <| q_p fr <| q_if (fun h1 => ?_) (fun h1 => ?_)
        ·exact q_lret 0 ⟨rfl, rfl⟩
        ·exact q_norm 0 ⟨rfl, rfl⟩
       ·first | refine q_ifF1 ?_ | skip
        exact q_norm 0 ⟨rfl, rfl⟩
     ·rintro s3 _ _ ⟨rfl, rfl⟩
      exact q_p fr <| q_norm 0 ⟨rfl, rfl⟩
     ·rintro i1 s3 _ _ ⟨rfl, rfl⟩
      exact q_exit 0 ⟨rfl, rfl⟩
     ·rintro s3 _ _ ⟨rfl, rfl⟩
      exact q_lret 0 ⟨rfl, rfl⟩
    ·exact q_exit 0 ⟨rfl, rfl⟩
   ·rintro i2 s4 _ _ ⟨rfl, rfl⟩
    refine q_ite (fun _ => ?_) (fun _ => ?_)
    ·exact q_ret (cv_p rfl) rfl
    ·exact q_none
   ·rintro s4 _ _ ⟨rfl, rfl⟩
    exact q_ret (cv_p rfl) rfl
def ms98_0 (a0 : List Int) (a1 : Int) (s1 : Bool × Int) : Option (LO (Bool × Int)) :=
 bif decide (s1.2 < (a0.length : Int)) then
  (getI a0 s1.2).bind fun x1 =>
  bif x1 == a1 then
   some (LO.ret (true, s1.2))
  else
   some (LO.norm (s1.1, wi .i64 (s1.2 + 1)))
 else
  some (LO.exit 0 (s1.1, s1.2))
def m98 (a0 : List Int) (a1 : Int) : Option (Bool) :=
 (loopO (ms98_0 a0 a1) NN (false, 0)).bind (contO (fun _ => none) (fun i1 s2 =>
  if i1 = 0 then
   some false
  else
   none) (fun s2 =>
  some s2.1))
theorem w98 {d : Nat} (hd : 1 ≤ d) (k0 : Bool) (a0 : List Int) (a1 : Int) : Fit (R NN d 98 [.rsl k0 false (a0.map (Enc.cs k0)), .int .i64 a1] []) (m98 a0 a1) (P0 (fun (t : Bool) => AV.bool t)) := by
  obtain ⟨d, rfl, g⟩ := up hd
  refine q_in (t98 NN d _ _) ?_
  unfold b98 m98
  refine q_loop (I := (fun (s : Bool × Int) l L => l = [.bool s.1, .int .i64 s.2] ∧ L = [])) 0 ⟨rfl, rfl⟩ ?_ ?_ ?_
  ·rintro s1 _ _ ⟨rfl, rfl⟩
   unfold s98_0 ms98_0
   refine q_len <| q_p fr <| q_if (fun h2 => ?_) (fun h2 => ?_)
   ·refine q_ix rfl fun x1 hx1 => q_p fr <| q_p fr <| q_if (fun h1 => ?_) (fun h1 => ?_)
    ·exact q_lret 0 ⟨rfl, rfl⟩
    ·exact q_p fr <| q_norm 0 ⟨rfl, rfl⟩
   ·exact q_exit 0 ⟨rfl, rfl⟩
  ·rintro i1 s2 _ _ ⟨rfl, rfl⟩
   refine q_ite (fun _ => ?_) (fun _ => ?_)
   ·exact q_ret (cv_p rfl) rfl
   ·exact q_none
  ·rintro s2 _ _ ⟨rfl, rfl⟩
   exact q_ret (cv_p rfl) rfl
def ms55_0 (a0 : Int) (a1 : List Int) (s1 : Int × (List TReplica)) : Option (LO (Int × (List TReplica))) :=
 bif decide (s1.1 ≤ (wi .i64 ((wi .i64 (3 * a0)) + 1))) then
  (
   (m98 a1 s1.1).bind fun y1 =>
   bif !y1 then
    (appO 32 s1.2 [(⟨s1.1, 0, (-1), 0⟩ : TReplica)]).bind fun z2 =>
    some (LO.norm z2)
   else
    some (LO.norm s1.2)).bind (contO (fun s3 =>
   some (LO.norm (wi .i64 (s1.1 + 1), s3))) (fun i1 s3 =>
   some (LO.exit i1 (s1.1, s3))) (fun s3 =>
   some (LO.ret (s1.1, s3))))
 else
  some (LO.exit 0 (s1.1, s1.2))
def m55 (a0 : Int) (a1 : List Int) : Option (TCluster) :=
 (appO 8 [] a1).bind fun z1 =>
 (loopO (ms55_0 a0 a1) NN (1, [])).bind (contO (fun _ => none) (fun i2 s4 =>
  if i2 = 0 then
   some (⟨a0, z1, s4.2, [], []⟩ : TCluster)
  else
   none) (fun s4 =>
  some (⟨0, [], [], [], []⟩ : TCluster)))
theorem w55 {d : Nat} (hd : 2 ≤ d) (a0 : Int) (k1 : Bool) (a1 : List Int) : Fit (R NN d 55 [.int .i64 a0, .rsl k1 false (a1.map (Enc.cs k1))] []) (m55 a0 a1) (P0 (fun (t : TCluster) => AV.agg (Enc.cs false t))) := by
  obtain ⟨d, rfl, g⟩ := up hd
  refine q_in (t55 NN d _ _) ?_
  unfold b55 m55
  refine q_new rfl fun b1 => q_e (fun _ => bs24_0 _) <| q_nil (α := Int) false <| q_app (ys := a1) 0 rfl rfl (fun _ _ => rfl) fun v1 z1 hz1 => q_ph (fun S hS => bd48_0_1 (by simp only [afill, plc, gd, List.getD_cons_zero, List.getD_cons_succ, List.getElem?_cons_zero, List.getElem?_cons_succ, hS.cell1 0 rfl]; rfl)) ?_
  refine q_new rfl fun b2 => q_st 0 rfl rfl rfl (by decide) rfl <| q_nil (α := TReplica) false <| q_loop (I := (fun (s : Int × (List TReplica)) l L => ∃ (v2 : AV), l = [.int .i64 s.1] ∧ L = [sl false v2 (s.2 : List TReplica), bx b2 [.int .i64 a0, v1, v2, .rsl false true [], .rsl false true []], sl false v1 (z1 : List Int), bx b1 [.int .i64 0, .rsl false true [], .rsl false true [], .rsl false true [], .rsl false true []]])) 0 ⟨(.rsl false true []), rfl, rfl⟩ ?_ ?_ ?_
  ·rintro s1 _ _ ⟨v2, rfl, rfl⟩
   unfold s55_0 ms55_0
   refine q_p fr <| q_p fr <| q_p fr <| q_if (fun h2 => ?_) (fun h2 => ?_)
   ·refine q_cut (I := (fun (s : (List TReplica)) l L => ∃ (v3 : AV), l = [] ∧ L = [sl false v3 (s : List TReplica), bx b2 [.int .i64 a0, v1, v3, .rsl false true [], .rsl false true []], sl false v1 (z1 : List Int), bx b1 [.int .i64 0, .rsl false true [], .rsl false true [], .rsl false true [], .rsl false true []]])) ?_ ?_ ?_ ?_
    ·refine q_c0 (fun S hS => argF2 cv_r (cv_p rfl) hS fun l0_ l1_ => w98 (by omega) l0_ a1 s1.1) fun y1 hy1 => q_p fr <| q_if (fun h1 => ?_) (fun h1 => ?_)
     ·exact q_p fr <| q_ld 1 rfl rfl <| q_p (fun _ => bd94_0_2 rfl) <| q_e (fun _ => bs45_1 rfl) <| q_app (ys := [(⟨s1.1, 0, (-1), 0⟩ : TReplica)]) 0 rfl rfl (fun _ _ => rfl) fun v3 z2 hz2 => q_p fr <| q_sto1 1 rfl (fun S hS => (HP.cell1 hS 0 rfl)) rfl <| q_norm 0 ⟨v3, rfl, rfl⟩
     ·exact q_norm 0 ⟨v2, rfl, rfl⟩
    ·rintro s3 _ _ ⟨v4, rfl, rfl⟩
     exact q_p fr <| q_norm 0 ⟨v4, rfl, rfl⟩
    ·rintro i1 s3 _ _ ⟨v5, rfl, rfl⟩
     exact q_exit 0 ⟨v5, rfl, rfl⟩
    ·rintro s3 _ _ ⟨v6, rfl, rfl⟩
     exact q_lret 0 ⟨v6, rfl, rfl⟩
   ·exact q_exit 0 ⟨v2, rfl, rfl⟩
  ·rintro i2 s4 _ _ ⟨v7, rfl, rfl⟩
   refine q_ite (fun _ => ?_) (fun _ => ?_)
   ·exact q_lda 1 rfl rfl rfl <| q_st 3 rfl rfl rfl (by decide) rfl <| q_retm (fun S hS => hS.lda 3 rfl rfl) (cv_a (cvs_cons (cv_p rfl) (cvs_cons (cv_o 2 rfl) (cvs_cons (cv_o 0 rfl) (cvs_cons (cv_r (α := TMsg) (l0 := false) (fl := true) (xs := [])) (cvs_cons (cv_r (α := TRequest) (l0 := false) (fl := true) (xs := [])) cvs_nil)))))) rfl
   ·exact q_none
  ·rintro s4 _ _ ⟨v8, rfl, rfl⟩
   exact q_retm (fun S hS => hS.lda 3 rfl rfl) (cv_a (cvs_cons (cv_p rfl) (cvs_cons (cv_r (α := Int) (l0 := false) (fl := true) (xs := [])) (cvs_cons (cv_r (α := TReplica) (l0 := false) (fl := true) (xs := [])) (cvs_cons (cv_r (α := TMsg) (l0 := false) (fl := true) (xs := [])) (cvs_cons (cv_r (α := TRequest) (l0 := false) (fl := true) (xs := [])) cvs_nil)))))) rfl
def m19 (a0 : Int) (a1 : List Int) : Option (TClusterResult) :=
 bif !(m52 a0) then
  some (⟨(m53 3).Code, (m53 3).Cluster⟩ : TClusterResult)
 else
  (m54 a0 a1).bind fun y1 =>
  bif y1 != 0 then
   some (⟨(m53 y1).Code, (m53 y1).Cluster⟩ : TClusterResult)
  else
   (m55 a0 a1).bind fun y2 =>
   some (⟨0, y2⟩ : TClusterResult)
theorem w19 {d : Nat} (hd : 4 ≤ d) (a0 : Int) (k1 : Bool) (a1 : List Int) : Fit (R NN d 19 [.int .i64 a0, .rsl k1 false (a1.map (Enc.cs k1))] []) (m19 a0 a1) (P0 (fun (t : TClusterResult) => AV.agg (Enc.cs false t))) := by
  obtain ⟨d, rfl, g⟩ := up hd
  refine q_in (t19 NN d _ _) ?_
  unfold b19 m19
  refine q_new rfl fun b1 => q_c0t (fun S hS => argF1 (cv_p rfl) hS fun l0_ => w52 (by omega) a0) <| q_p fr <| q_if (fun h2 => ?_) (fun h2 => ?_)
  ·exact q_c0t (fun S hS => argF1 (cv_p rfl) hS fun l0_ => w53 (by omega) 3) <| q_st 0 rfl rfl rfl (by decide) rfl <| q_retm (fun S hS => hS.lda 0 rfl rfl) (cv_a (cvs_cons (cv_p rfl) (cvs_cons (cv_p rfl) (cvs_cons cv_r (cvs_cons cv_r (cvs_cons cv_r (cvs_cons cv_r cvs_nil))))))) rfl
  ·refine q_c0 (fun S hS => argF2 (cv_p rfl) cv_r hS fun l0_ l1_ => w54 (by omega) a0 l1_ a1) fun y1 hy1 => q_p fr <| q_if (fun h1 => ?_) (fun h1 => ?_)
   ·exact q_c0t (fun S hS => argF1 (cv_p rfl) hS fun l0_ => w53 (by omega) y1) <| q_st 0 rfl rfl rfl (by decide) rfl <| q_retm (fun S hS => hS.lda 0 rfl rfl) (cv_a (cvs_cons (cv_p rfl) (cvs_cons (cv_p rfl) (cvs_cons cv_r (cvs_cons cv_r (cvs_cons cv_r (cvs_cons cv_r cvs_nil))))))) rfl
   ·exact q_c0 (fun S hS => argF2 (cv_p rfl) cv_r hS fun l0_ l1_ => w55 (by omega) a0 l1_ a1) fun y2 hy2 => q_p (fun _ => bd50_1 rfl) <| q_st 0 rfl rfl rfl (by decide) rfl <| q_retm (fun S hS => hS.lda 0 rfl rfl) (cv_a (cvs_cons (cv_p rfl) (cvs_cons (cv_p rfl) (cvs_cons cv_r (cvs_cons cv_r (cvs_cons cv_r (cvs_cons cv_r cvs_nil))))))) rfl
def ms20_0 (a0 : List Int) (s1 : Int × (List Int)) : Option (LO (Int × (List Int))) :=
 bif decide (s1.1 < (a0.length : Int)) then
  (getI a0 s1.1).bind fun x1 =>
  (getI s1.2 s1.1).bind fun x2 =>
  some (LO.norm (wi .i64 (s1.1 + 1), s1.2.set (Int.toNat s1.1) x1))
 else
  some (LO.exit 0 (s1.1, s1.2))
def m20 (a0 : List Int) : Option ((List Int)) :=
 (mkO 8 (a0.length : Int) 0).bind fun z1 =>
 (loopO (ms20_0 a0) NN (0, z1)).bind (contO (fun _ => none) (fun i1 s2 =>
  if i1 = 0 then
   some s2.2
  else
   none) (fun s2 =>
  some []))
theorem w20 {d : Nat} (hd : 1 ≤ d) (k0 : Bool) (a0 : List Int) : Fit (R NN d 20 [.rsl k0 false (a0.map (Enc.cs k0))] []) (m20 a0) (P1 (T := List Int) one1) := by
  obtain ⟨d, rfl, g⟩ := up hd
  refine q_in (t20 NN d _) ?_
  unfold b20 m20
  refine q_len <| q_mk (z := 0) mk24 fun v1 z1 hz1 => q_loop (I := (fun (s : Int × (List Int)) l L => l = [.int .i64 s.1] ∧ L = [sl false v1 (s.2 : List Int)])) 0 ⟨rfl, rfl⟩ ?_ ?_ ?_
  ·rintro s1 _ _ ⟨rfl, rfl⟩
   unfold s20_0 ms20_0
   refine q_len <| q_p fr <| q_if (fun h1 => ?_) (fun h1 => ?_)
   ·exact q_ix rfl fun x1 hx1 => q_p fr <| q_ixo 0 rfl rfl fun x2 hx2 => q_stoe (y := x1) 0 rfl rfl hx2 rfl (by decide) <| q_p fr <| q_norm 0 ⟨rfl, rfl⟩
   ·exact q_exit 0 ⟨rfl, rfl⟩
  ·rintro i1 s2 _ _ ⟨rfl, rfl⟩
   refine q_ite (fun _ => ?_) (fun _ => ?_)
   ·exact q_out (tb_sl 0 rfl plt2) rfl
   ·exact q_none
  ·rintro s2 _ _ ⟨rfl, rfl⟩
   exact q_out (tb_nil (α := Int) (fl := true)) rfl
theorem w20f {d : Nat} (hd : 1 ≤ d) (k0 : Bool) (a0 : List Int) : Fit (R NN d 20 [.rsl k0 false (a0.map (Enc.cs k0))] []) (m20 a0) (P0 (fun (t : List Int) => AV.rsl false false (t.map (Enc.cs false)))) := p1_sl (w20 hd k0 a0)
def m84 (a0 : Int) (a1 : Int) (a2 : Int) : Bool :=
 bif decide (a1 ≤ a0) then
  decide (a0 ≤ a2)
 else
  false
theorem w84 {d : Nat} (hd : 1 ≤ d) (a0 : Int) (a1 : Int) (a2 : Int) : Fit (R NN d 84 [.int .i64 a0, .int .i64 a1, .int .i64 a2] []) (some (m84 a0 a1 a2)) (P0 (fun (t : Bool) => AV.bool t)) := by
  obtain ⟨d, rfl, g⟩ := up hd
  refine q_in (t84 NN d _ _ _) ?_
  unfold b84 m84
  refine q_p fr <| q_gTt (fun h1 => ?_) (fun h1 => ?_)
  ·exact q_p fr <| q_ret (cv_p rfl) rfl
  ·exact q_ret (cv_p rfl) rfl
def m56 (a0 : Int) : Bool :=
 (m84 a0 1 2)
theorem w56 {d : Nat} (hd : 2 ≤ d) (a0 : Int) : Fit (R NN d 56 [.int .i64 a0] []) (some (m56 a0)) (P0 (fun (t : Bool) => AV.bool t)) := by
  obtain ⟨d, rfl, g⟩ := up hd
  refine q_in (t56 NN d _) ?_
  unfold b56 m56
  exact q_c0t (fun S hS => argF3 (cv_p rfl) (cv_p rfl) (cv_p rfl) hS fun l0_ l1_ l2_ => w84 (by omega) a0 1 2) <| q_ret (cv_p rfl) rfl
def m89 (a0 : Int) : Int :=
 wi .i64 ((wi .i64 (3 * a0)) + 1)
theorem w89 {d : Nat} (hd : 1 ≤ d) (a0 : Int) : Fit (R NN d 89 [.int .i64 a0] []) (some (m89 a0)) (P0 (fun (t : Int) => AV.int .i64 t)) := by
  obtain ⟨d, rfl, g⟩ := up hd
  refine q_in (t89 NN d _) ?_
  unfold b89 m89
  exact q_p fr <| q_p fr <| q_ret (cv_p rfl) rfl
def m86 (a0 : Int) (a1 : Int) : Bool :=
 (m84 a1 1 (m89 a0))
theorem w86 {d : Nat} (hd : 2 ≤ d) (a0 : Int) (a1 : Int) : Fit (R NN d 86 [.int .i64 a0, .int .i64 a1] []) (some (m86 a0 a1)) (P0 (fun (t : Bool) => AV.bool t)) := by
  obtain ⟨d, rfl, g⟩ := up hd
  refine q_in (t86 NN d _ _) ?_
  unfold b86 m86
  exact q_c0t (fun S hS => argF1 (cv_p rfl) hS fun l0_ => w89 (by omega) a0) <| q_c0t (fun S hS => argF3 (cv_p rfl) (cv_p rfl) (cv_p rfl) hS fun l0_ l1_ l2_ => w84 (by omega) a1 1 (m89 a0)) <| q_ret (cv_p rfl) rfl
def ms99_0 (a0 : Int) (a1 : List Int) (s1 : Int × Int) : Option (LO (Int × Int)) :=
 bif decide (s1.2 < (a1.length : Int)) then
  (
   (getI a1 s1.2).bind fun x1 =>
   bif !(m86 a0 x1) then
    some (LO.ret 3)
   else
    bif decide (s1.2 > 0) then
     (getI a1 (wi .i64 (s1.2 - 1))).bind fun x2 =>
     bif decide (x1 ≤ x2) then
      some (LO.ret 1)
     else
      some (LO.norm s1.1)
    else
     some (LO.norm s1.1)).bind (contO (fun s3 =>
   some (LO.norm (s3, wi .i64 (s1.2 + 1)))) (fun i1 s3 =>
   some (LO.exit i1 (s3, s1.2))) (fun s3 =>
   some (LO.ret (s3, s1.2))))
 else
  some (LO.exit 0 (s1.1, s1.2))
def m99 (a0 : Int) (a1 : List Int) : Option (Int) :=
 (loopO (ms99_0 a0 a1) NN (0, 0)).bind (contO (fun _ => none) (fun i2 s4 =>
  if i2 = 0 then
   some 0
  else
   none) (fun s4 =>
  some s4.1))
theorem w99 {d : Nat} (hd : 3 ≤ d) (a0 : Int) (k1 : Bool) (a1 : List Int) : Fit (R NN d 99 [.int .i64 a0, .rsl k1 false (a1.map (Enc.cs k1))] []) (m99 a0 a1) (P0 (fun (t : Int) => AV.int .i64 t)) := by
  obtain ⟨d, rfl, g⟩ := up hd
  refine q_in (t99 NN d _ _) ?_
  unfold b99 m99
  refine q_len <| q_loop (I := (fun (s : Int × Int) l L => l = [.int .i64 s.1, .int .i64 s.2] ∧ L = [])) 0 ⟨rfl, rfl⟩ ?_ ?_ ?_
  ·rintro s1 _ _ ⟨rfl, rfl⟩
   unfold s99_0 ms99_0
   refine q_p fr <| q_if (fun h4 => ?_) (fun h4 => ?_)
   ·refine q_cut (I := (fun (s : Int) l L => l = [.int .i64 s] ∧ L = [])) ?_ ?_ ?_ ?_
    ·refine q_ix rfl fun x1 hx1 => q_p fr <| q_c0t (fun S hS => argF2 (cv_p rfl) (cv_p rfl) hS fun l0_ l1_ => w86 (by omega) a0 x1) <| q_p fr <| q_if (fun h3 => ?_) (fun h3 => ?_)
     ·exact q_lret 0 ⟨rfl, rfl⟩
     ·refine q_p fr <| q_gT (fun h2 => ?_) (fun h2 => ?_)
      ·refine q_p fr <| q_ix rfl fun x2 hx2 => q_p fr <| q_p fr <| q_if (fun h1 => ?_) (fun h1 => ?_)
       ·exact q_lret 0 ⟨rfl, rfl⟩
       ·exact q_norm 0 ⟨rfl, rfl⟩
      ·first | refine q_ifF1 ?_ | skip
       exact q_norm 0 ⟨rfl, rfl⟩
    ·rintro s3 _ _ ⟨rfl, rfl⟩
     exact q_p fr <| q_norm 0 ⟨rfl, rfl⟩
    ·rintro i1 s3 _ _ ⟨rfl, rfl⟩
     exact q_exit 0 ⟨rfl, rfl⟩
    ·rintro s3 _ _ ⟨rfl, rfl⟩
     exact q_lret 0 ⟨rfl, rfl⟩
   ·exact q_exit 0 ⟨rfl, rfl⟩
  ·rintro i2 s4 _ _ ⟨rfl, rfl⟩
   refine q_ite (fun _ => ?_) (fun _ => ?_)
   ·exact q_ret (cv_p rfl) rfl
   ·exact q_none
  ·rintro s4 _ _ ⟨rfl, rfl⟩
   exact q_ret (cv_p rfl) rfl
def m57 (a0 : Int) (a1 : List Int) : Option (Int) :=
 bif decide ((a1.length : Int) > a0) then
  some 2
 else
  (m99 a0 a1).bind fun y1 =>
  some y1
theorem w57 {d : Nat} (hd : 4 ≤ d) (a0 : Int) (k1 : Bool) (a1 : List Int) : Fit (R NN d 57 [.int .i64 a0, .rsl k1 false (a1.map (Enc.cs k1))] []) (m57 a0 a1) (P0 (fun (t : Int) => AV.int .i64 t)) := by
  obtain ⟨d, rfl, g⟩ := up hd
  refine q_in (t57 NN d _ _) ?_
  unfold b57 m57
  refine q_len <| q_p fr <| q_if (fun h1 => ?_) (fun h1 => ?_)
  ·exact q_ret (cv_p rfl) rfl
  ·exact q_c0 (fun S hS => argF2 (cv_p rfl) cv_r hS fun l0_ l1_ => w99 (by omega) a0 l1_ a1) fun y1 hy1 => q_ret (cv_p rfl) rfl
def m58 (a0 : List Int) : Option (List Int) := appO 8 [] a0
theorem w58 {d : Nat} (hd : 1 ≤ d) (k0 : Bool) (a0 : List Int) : Fit (R NN d 58 [.rsl k0 false (a0.map (Enc.cs k0))] []) (m58 a0) (P1 (T := List Int) one1) := by
  obtain ⟨d, rfl, g⟩ := up hd
  rw [t58]
  refine (?_ : Okh [] (fun S => b58 (cfg NN) (R NN d) (.rsl k0 false (a0.map (Enc.cs k0))) S) _ _) [] HP.nil
  unfold b58 m58
  refine q_nilc (e := 2) und24 (fun h S => ?_) ?_
  · subst h
    refine Eq.symm (show pe (abuildS _ _ _ _ S) _ = _ from ?_)
    rw [bs24_0]; rfl
  refine q_e (fun _ => bs24_0 _) ?_
  refine q_nil (α := Int) false ?_
  rw [show appO 8 ([] : List Int) a0 = (appO 8 [] a0).bind some from by cases appO 8 ([] : List Int) a0 <;> rfl]
  refine q_app (ys := a0) 0 rfl rfl (fun _ _ => rfl) fun v1 z1 hz1 => ?_
  exact q_out (tb_sl 0 rfl plt2) rfl
def ms122_0 (a0 : List Int) (a1 : Int) (s1 : Int × Int) : Option (LO (Int × Int)) :=
 bif decide (s1.2 < (a0.length : Int)) then
  (getI a0 s1.2).bind fun x1 =>
  bif a1 == x1 then
   some (LO.ret (s1.2, s1.2))
  else
   some (LO.norm (s1.1, wi .i64 (s1.2 + 1)))
 else
  some (LO.exit 0 (s1.1, s1.2))
def m122 (a0 : List Int) (a1 : Int) : Option (Int) :=
 (loopO (ms122_0 a0 a1) NN (0, 0)).bind (contO (fun _ => none) (fun i1 s2 =>
  if i1 = 0 then
   some (-1)
  else
   none) (fun s2 =>
  some s2.1))
theorem w122 {d : Nat} (hd : 1 ≤ d) (k0 : Bool) (a0 : List Int) (a1 : Int) : Fit (R NN d 122 [.rsl k0 false (a0.map (Enc.cs k0)), .int .i64 a1] []) (m122 a0 a1) (P0 (fun (t : Int) => AV.int .i64 t)) := by
  obtain ⟨d, rfl, g⟩ := up hd
  refine q_in (t122 NN d _ _) ?_
  unfold b122 m122
  refine q_len <| q_loop (I := (fun (s : Int × Int) l L => l = [.int .i64 s.1, .int .i64 s.2] ∧ L = [])) 0 ⟨rfl, rfl⟩ ?_ ?_ ?_
  ·rintro s1 _ _ ⟨rfl, rfl⟩
   unfold s122_0 ms122_0
   refine q_p fr <| q_if (fun h2 => ?_) (fun h2 => ?_)
   ·refine q_ix rfl fun x1 hx1 => q_p fr <| q_p fr <| q_if (fun h1 => ?_) (fun h1 => ?_)
    ·exact q_lret 0 ⟨rfl, rfl⟩
    ·exact q_p fr <| q_norm 0 ⟨rfl, rfl⟩
   ·exact q_exit 0 ⟨rfl, rfl⟩
  ·rintro i1 s2 _ _ ⟨rfl, rfl⟩
   refine q_ite (fun _ => ?_) (fun _ => ?_)
   ·exact q_ret (cv_p rfl) rfl
   ·exact q_none
  ·rintro s2 _ _ ⟨rfl, rfl⟩
   exact q_ret (cv_p rfl) rfl
def m100 (a0 : List Int) (a1 : Int) : Option (Bool) :=
 (m122 a0 a1).bind fun y1 =>
 some (decide (y1 ≥ 0))
theorem w100 {d : Nat} (hd : 2 ≤ d) (k0 : Bool) (a0 : List Int) (a1 : Int) : Fit (R NN d 100 [.rsl k0 false (a0.map (Enc.cs k0)), .int .i64 a1] []) (m100 a0 a1) (P0 (fun (t : Bool) => AV.bool t)) := by
  obtain ⟨d, rfl, g⟩ := up hd
  refine q_in (t100 NN d _ _) ?_
  unfold b100 m100
  exact q_c0 (fun S hS => argF2 cv_r (cv_p rfl) hS fun l0_ l1_ => w122 (by omega) l0_ a0 a1) fun y1 hy1 => q_p fr <| q_ret (cv_p rfl) rfl
def ms59_0 (a0 : Int) (a1 : List Int) (s1 : Int × (List Int)) : Option (LO (Int × (List Int))) :=
 bif decide (s1.1 ≤ (m89 a0)) then
  (
   (m100 a1 s1.1).bind fun y1 =>
   bif !y1 then
    (appO 8 s1.2 [s1.1]).bind fun z1 =>
    some (LO.norm z1)
   else
    some (LO.norm s1.2)).bind (contO (fun s3 =>
   some (LO.norm (wi .i64 (s1.1 + 1), s3))) (fun i1 s3 =>
   some (LO.exit i1 (s1.1, s3))) (fun s3 =>
   some (LO.ret (s1.1, s3))))
 else
  some (LO.exit 0 (s1.1, s1.2))
def m59 (a0 : Int) (a1 : List Int) : Option ((List Int)) :=
 (loopO (ms59_0 a0 a1) NN (1, [])).bind (contO (fun _ => none) (fun i2 s4 =>
  if i2 = 0 then
   some s4.2
  else
   none) (fun s4 =>
  some []))
theorem w59 {d : Nat} (hd : 3 ≤ d) (a0 : Int) (k1 : Bool) (a1 : List Int) : Fit (R NN d 59 [.int .i64 a0, .rsl k1 false (a1.map (Enc.cs k1))] []) (m59 a0 a1) (P0 (fun (t : List Int) => AV.rsl false false (t.map (Enc.cs false)))) := by
  obtain ⟨d, rfl, g⟩ := up hd
  refine q_in (t59 NN d _ _) ?_
  unfold b59 m59
  refine q_e (fun _ => bs24_0 _) <| q_nil (α := Int) false <| q_loop (I := (fun (s : Int × (List Int)) l L => ∃ (v1 : AV), l = [v1, .int .i64 s.1] ∧ L = [sl false v1 (s.2 : List Int)])) 0 ⟨(.rsl false true []), rfl, rfl⟩ ?_ ?_ ?_
  ·rintro s1 _ _ ⟨v1, rfl, rfl⟩
   unfold s59_0 ms59_0
   refine q_c0t (fun S hS => argF1 (cv_p rfl) hS fun l0_ => w89 (by omega) a0) <| q_p fr <| q_if (fun h2 => ?_) (fun h2 => ?_)
   ·refine q_cut (I := (fun (s : (List Int)) l L => ∃ (v2 : AV), l = [v2] ∧ L = [sl false v2 (s : List Int)])) ?_ ?_ ?_ ?_
    ·refine q_c0 (fun S hS => argF2 cv_r (cv_p rfl) hS fun l0_ l1_ => w100 (by omega) l0_ a1 s1.1) fun y1 hy1 => q_p fr <| q_if (fun h1 => ?_) (fun h1 => ?_)
     ·exact q_e (fun _ => bs24_1 rfl) <| q_app (ys := [s1.1]) 0 rfl rfl (fun _ _ => rfl) fun v2 z1 hz1 => q_norm 0 ⟨v2, rfl, rfl⟩
     ·exact q_norm 0 ⟨v1, rfl, rfl⟩
    ·rintro s3 _ _ ⟨v3, rfl, rfl⟩
     exact q_p fr <| q_norm 0 ⟨v3, rfl, rfl⟩
    ·rintro i1 s3 _ _ ⟨v4, rfl, rfl⟩
     exact q_exit 0 ⟨v4, rfl, rfl⟩
    ·rintro s3 _ _ ⟨v5, rfl, rfl⟩
     exact q_lret 0 ⟨v5, rfl, rfl⟩
   ·exact q_exit 0 ⟨v1, rfl, rfl⟩
  ·rintro i2 s4 _ _ ⟨v6, rfl, rfl⟩
   refine q_ite (fun _ => ?_) (fun _ => ?_)
   ·exact q_ret (cv_o 0 rfl) rfl
   ·exact q_none
  ·rintro s4 _ _ ⟨v7, rfl, rfl⟩
   exact q_ret (cv_r (α := Int) (l0 := false) (fl := true) (xs := [])) rfl
def ms21_0 (y3 : (List Int)) (s1 : Int × (List TReplica)) : Option (LO (Int × (List TReplica))) :=
 bif decide (s1.1 < (y3.length : Int)) then
  (getI y3 s1.1).bind fun x1 =>
  (appO 32 s1.2 [(⟨x1, 0, (-1), 0⟩ : TReplica)]).bind fun z1 =>
  some (LO.norm (wi .i64 (s1.1 + 1), z1))
 else
  some (LO.exit 0 (s1.1, s1.2))
def m21 (a0 : Int) (a1 : List Int) : Option (TClusterResult) :=
 bif !(m56 a0) then
  some (⟨3, (⟨0, [], [], [], []⟩ : TCluster)⟩ : TClusterResult)
 else
  (m57 a0 a1).bind fun y1 =>
  bif y1 != 0 then
   some (⟨y1, (⟨0, [], [], [], []⟩ : TCluster)⟩ : TClusterResult)
  else
   (m58 a1).bind fun y2 =>
   (m59 a0 a1).bind fun y3 =>
   (loopO (ms21_0 y3) NN (0, [])).bind (contO (fun _ => none) (fun i2 s2 =>
    if i2 = 0 then
     some (⟨0, (⟨a0, y2, s2.2, [], []⟩ : TCluster)⟩ : TClusterResult)
    else
     none) (fun s2 =>
    some (⟨0, (⟨0, [], [], [], []⟩ : TCluster)⟩ : TClusterResult)))
theorem w21 {d : Nat} (hd : 5 ≤ d) (a0 : Int) (k1 : Bool) (a1 : List Int) : Fit (R NN d 21 [.int .i64 a0, .rsl k1 false (a1.map (Enc.cs k1))] []) (m21 a0 a1) (P1 (T := TClusterResult) AV.agg) := by
  obtain ⟨d, rfl, g⟩ := up hd
  refine q_in (t21 NN d _ _) ?_
  unfold b21 m21
  refine q_new rfl fun b1 => q_c0t (fun S hS => argF1 (cv_p rfl) hS fun l0_ => w56 (by omega) a0) <| q_p fr <| q_if (fun h3 => ?_) (fun h3 => ?_)
  ·exact q_p (fun _ => bd50_0 rfl) <| q_st 0 rfl rfl rfl (by decide) rfl <| q_outm (fun S hS => hS.lda 0 rfl rfl) (tb_of (α := TClusterResult) (β := Int × TCluster) (f := fun x => (x.Code, x.Cluster)) (x := (⟨3, (⟨0, [], [], [], []⟩ : TCluster)⟩ : TClusterResult)) rfl (tb_pair (tb_int (n := 3)) (tb_of (α := TCluster) (β := Int × (List Int) × (List TReplica) × (List TMsg) × (List TRequest)) (f := fun x => (x.F, x.Bad, x.Replicas, x.Ledger, x.Requests)) (x := (⟨0, [], [], [], []⟩ : TCluster)) rfl (tb_pair (tb_int (n := 0)) (tb_pair (tb_nil (α := Int) (fl := true)) (tb_pair (tb_nil (α := TReplica) (fl := true)) (tb_pair (tb_nil (α := TMsg) (fl := true)) (tb_nil (α := TRequest) (fl := true))))))))) rfl
  ·refine q_c0 (fun S hS => argF2 (cv_p rfl) cv_r hS fun l0_ l1_ => w57 (by omega) a0 l1_ a1) fun y1 hy1 => q_p fr <| q_if (fun h2 => ?_) (fun h2 => ?_)
   ·exact q_p (fun _ => bd50_0 rfl) <| q_st 0 rfl rfl rfl (by decide) rfl <| q_outm (fun S hS => hS.lda 0 rfl rfl) (tb_of (α := TClusterResult) (β := Int × TCluster) (f := fun x => (x.Code, x.Cluster)) (x := (⟨y1, (⟨0, [], [], [], []⟩ : TCluster)⟩ : TClusterResult)) rfl (tb_pair (tb_int (n := y1)) (tb_of (α := TCluster) (β := Int × (List Int) × (List TReplica) × (List TMsg) × (List TRequest)) (f := fun x => (x.F, x.Bad, x.Replicas, x.Ledger, x.Requests)) (x := (⟨0, [], [], [], []⟩ : TCluster)) rfl (tb_pair (tb_int (n := 0)) (tb_pair (tb_nil (α := Int) (fl := true)) (tb_pair (tb_nil (α := TReplica) (fl := true)) (tb_pair (tb_nil (α := TMsg) (fl := true)) (tb_nil (α := TRequest) (fl := true))))))))) rfl
   ·refine q_c1s (mg := m58 a1) (fun S hS => argF1 cv_r hS fun l0_ => w58 (by omega) l0_ a1) fun y2 hy2 i1 v1 => q_ph (fun S hS => bd48_0_1 (by simp only [afill, plc, gd, List.getD_cons_zero, List.getD_cons_succ, List.getElem?_cons_zero, List.getElem?_cons_succ, hS.cell1t 0 rfl]; rfl)) ?_
    refine q_new rfl fun b2 => q_st 0 rfl rfl rfl (by decide) rfl <| q_c0 (fun S hS => argF2 (cv_p rfl) cv_r hS fun l0_ l1_ => w59 (by omega) a0 l1_ a1) fun y3 hy3 => q_len <| q_nil (α := TReplica) false <| q_loop (I := (fun (s : Int × (List TReplica)) l L => ∃ (v2 : AV), l = [.int .i64 s.1] ∧ L = [sl false v2 (s.2 : List TReplica), bx b2 [.int .i64 a0, v1, v2, .rsl false true [], .rsl false true []], tr i1 [v1] (y2 : List Int), bx b1 [.int .i64 0, .int .i64 0, .rsl false true [], .rsl false true [], .rsl false true [], .rsl false true []]])) 0 ⟨(.rsl false true []), rfl, rfl⟩ ?_ ?_ ?_
    ·rintro s1 _ _ ⟨v2, rfl, rfl⟩
     unfold s21_0 ms21_0
     refine q_p fr <| q_if (fun h1 => ?_) (fun h1 => ?_)
     ·exact q_ix rfl fun x1 hx1 => q_p fr <| q_p fr <| q_ld 1 rfl rfl <| q_p (fun _ => bd94_0_2 rfl) <| q_e (fun _ => bs45_1 rfl) <| q_app (ys := [(⟨x1, 0, (-1), 0⟩ : TReplica)]) 0 rfl rfl (fun _ _ => rfl) fun v3 z1 hz1 => q_p fr <| q_sto1 1 rfl (fun S hS => (HP.cell1 hS 0 rfl)) rfl <| q_p fr <| q_norm 0 ⟨v3, rfl, rfl⟩
     ·exact q_exit 0 ⟨v2, rfl, rfl⟩
    ·rintro i2 s2 _ _ ⟨v4, rfl, rfl⟩
     refine q_ite (fun _ => ?_) (fun _ => ?_)
     ·exact q_lda 1 rfl rfl rfl <| q_p (fun _ => bd50_1 rfl) <| q_st 3 rfl rfl rfl (by decide) rfl <| q_outm (fun S hS => hS.lda 3 rfl rfl) (tb_of (α := TClusterResult) (β := Int × TCluster) (f := fun x => (x.Code, x.Cluster)) (x := (⟨0, (⟨a0, y2, s2.2, [], []⟩ : TCluster)⟩ : TClusterResult)) rfl (tb_pair (tb_int (n := 0)) (tb_of (α := TCluster) (β := Int × (List Int) × (List TReplica) × (List TMsg) × (List TRequest)) (f := fun x => (x.F, x.Bad, x.Replicas, x.Ledger, x.Requests)) (x := (⟨a0, y2, s2.2, [], []⟩ : TCluster)) rfl (tb_pair (tb_int (n := a0)) (tb_pair (tb_tr 2 rfl) (tb_pair (tb_sl 0 rfl plt94) (tb_pair (tb_nil (α := TMsg) (fl := true)) (tb_nil (α := TRequest) (fl := true))))))))) rfl
     ·exact q_none
    ·rintro s2 _ _ ⟨v5, rfl, rfl⟩
     exact q_outm (fun S hS => hS.lda 3 rfl rfl) (tb_of (α := TClusterResult) (β := Int × TCluster) (f := fun x => (x.Code, x.Cluster)) (x := (⟨0, (⟨0, [], [], [], []⟩ : TCluster)⟩ : TClusterResult)) rfl (tb_pair (tb_int (n := 0)) (tb_of (α := TCluster) (β := Int × (List Int) × (List TReplica) × (List TMsg) × (List TRequest)) (f := fun x => (x.F, x.Bad, x.Replicas, x.Ledger, x.Requests)) (x := (⟨0, [], [], [], []⟩ : TCluster)) rfl (tb_pair (tb_int (n := 0)) (tb_pair (tb_nil (α := Int) (fl := true)) (tb_pair (tb_nil (α := TReplica) (fl := true)) (tb_pair (tb_nil (α := TMsg) (fl := true)) (tb_nil (α := TRequest) (fl := true))))))))) rfl
theorem w21f {d : Nat} (hd : 5 ≤ d) (a0 : Int) (k1 : Bool) (a1 : List Int) : Fit (R NN d 21 [.int .i64 a0, .rsl k1 false (a1.map (Enc.cs k1))] []) (m21 a0 a1) (P0 (fun (t : TClusterResult) => AV.agg (Enc.cs false t))) := p1_agg (w21 hd a0 k1 a1)
def ms23_0 (a0 : List Int) (a1 : List Int) (s1 : Bool × Int) : Option (LO (Bool × Int)) :=
 bif decide (s1.2 < (a0.length : Int)) then
  (getI a0 s1.2).bind fun x1 =>
  (getI a1 s1.2).bind fun x2 =>
  bif x1 != x2 then
   some (LO.ret (false, s1.2))
  else
   some (LO.norm (s1.1, wi .i64 (s1.2 + 1)))
 else
  some (LO.exit 0 (s1.1, s1.2))
def m23 (a0 : List Int) (a1 : List Int) : Option (Bool) :=
 bif (a0.length : Int) != (a1.length : Int) then
  some false
 else
  (loopO (ms23_0 a0 a1) NN (false, 0)).bind (contO (fun _ => none) (fun i1 s2 =>
   if i1 = 0 then
    some true
   else
    none) (fun s2 =>
   some s2.1))
theorem w23 {d : Nat} (hd : 1 ≤ d) (k0 : Bool) (a0 : List Int) (k1 : Bool) (a1 : List Int) : Fit (R NN d 23 [.rsl k0 false (a0.map (Enc.cs k0)), .rsl k1 false (a1.map (Enc.cs k1))] []) (m23 a0 a1) (P0 (fun (t : Bool) => AV.bool t)) := by
  obtain ⟨d, rfl, g⟩ := up hd
  refine q_in (t23 NN d _ _) ?_
  unfold b23 m23
  refine q_len <| q_len <| q_p fr <| q_if (fun h3 => ?_) (fun h3 => ?_)
  ·exact q_ret (cv_p rfl) rfl
  ·refine q_loop (I := (fun (s : Bool × Int) l L => l = [.bool s.1, .int .i64 s.2] ∧ L = [])) 0 ⟨rfl, rfl⟩ ?_ ?_ ?_
   ·rintro s1 _ _ ⟨rfl, rfl⟩
    unfold s23_0 ms23_0
    refine q_len <| q_p fr <| q_if (fun h2 => ?_) (fun h2 => ?_)
    ·refine q_ix rfl fun x1 hx1 => q_p fr <| q_ix rfl fun x2 hx2 => q_p fr <| q_p fr <| q_if (fun h1 => ?_) (fun h1 => ?_)
     ·exact q_lret 0 ⟨rfl, rfl⟩
     ·exact q_p fr <| q_norm 0 ⟨rfl, rfl⟩
    ·exact q_exit 0 ⟨rfl, rfl⟩
   ·rintro i1 s2 _ _ ⟨rfl, rfl⟩
    refine q_ite (fun _ => ?_) (fun _ => ?_)
    ·exact q_ret (cv_p rfl) rfl
    ·exact q_none
   ·rintro s2 _ _ ⟨rfl, rfl⟩
    exact q_ret (cv_p rfl) rfl
def m96 (a0 : TCert) (a1 : TCert) : Bool :=
 bif a0.Slot != a1.Slot then
  false
 else
  bif a0.View != a1.View then
   false
  else
   bif a0.Value != a1.Value then
    false
   else
    true
theorem w96 {d : Nat} (hd : 1 ≤ d) (k0 : Bool) (a0 : TCert) (k1 : Bool) (a1 : TCert) : Fit (R NN d 96 [.agg (Enc.cs k0 a0), .agg (Enc.cs k1 a1)] []) (some (m96 a0 a1)) (P0 (fun (t : Bool) => AV.bool t)) := by
  obtain ⟨d, rfl, g⟩ := up hd
  refine q_in (t96 NN d _ _) ?_
  unfold b96 m96
  refine q_box (n := 3) rfl rfl (by decide) fun b1 => q_box (n := 3) rfl rfl (by decide) fun b2 => q_p fr <| q_ld 1 rfl rfl <| q_p fr <| q_ld 0 rfl rfl <| q_p fr <| q_ift (fun h3 => ?_) (fun h3 => ?_)
  ·exact q_ret (cv_p rfl) rfl
  ·refine q_p fr <| q_ld 1 rfl rfl <| q_p fr <| q_ld 0 rfl rfl <| q_p fr <| q_ift (fun h2 => ?_) (fun h2 => ?_)
   ·exact q_ret (cv_p rfl) rfl
   ·refine q_p fr <| q_ld 1 rfl rfl <| q_p fr <| q_ld 0 rfl rfl <| q_p fr <| q_ift (fun h1 => ?_) (fun h1 => ?_)
    ·exact q_ret (cv_p rfl) rfl
    ·exact q_ret (cv_p rfl) rfl
def ms49_0 (a0 : List TCert) (a1 : List TCert) (s1 : Bool × Int) : Option (LO (Bool × Int)) :=
 bif decide (s1.2 < (a0.length : Int)) then
  (getI a0 s1.2).bind fun x1 =>
  (getI a1 s1.2).bind fun x2 =>
  bif !(m96 x1 x2) then
   some (LO.ret (false, s1.2))
  else
   some (LO.norm (s1.1, wi .i64 (s1.2 + 1)))
 else
  some (LO.exit 0 (s1.1, s1.2))
def m49 (a0 : List TCert) (a1 : List TCert) : Option (Bool) :=
 bif (a0.length : Int) != (a1.length : Int) then
  some false
 else
  (loopO (ms49_0 a0 a1) NN (false, 0)).bind (contO (fun _ => none) (fun i1 s2 =>
   if i1 = 0 then
    some true
   else
    none) (fun s2 =>
   some s2.1))
theorem w49 {d : Nat} (hd : 2 ≤ d) (k0 : Bool) (a0 : List TCert) (k1 : Bool) (a1 : List TCert) : Fit (R NN d 49 [.rsl k0 false (a0.map (Enc.cs k0)), .rsl k1 false (a1.map (Enc.cs k1))] []) (m49 a0 a1) (P0 (fun (t : Bool) => AV.bool t)) := by
  obtain ⟨d, rfl, g⟩ := up hd
  refine q_in (t49 NN d _ _) ?_
  unfold b49 m49
  refine q_len <| q_len <| q_p fr <| q_if (fun h3 => ?_) (fun h3 => ?_)
  ·exact q_ret (cv_p rfl) rfl
  ·refine q_loop (I := (fun (s : Bool × Int) l L => l = [.bool s.1, .int .i64 s.2] ∧ L = [])) 0 ⟨rfl, rfl⟩ ?_ ?_ ?_
   ·rintro s1 _ _ ⟨rfl, rfl⟩
    unfold s49_0 ms49_0
    refine q_len <| q_p fr <| q_if (fun h2 => ?_) (fun h2 => ?_)
    ·refine q_ix rfl fun x1 hx1 => q_p fr <| q_ix rfl fun x2 hx2 => q_p fr <| q_c0t (fun S hS => argF2 (cv_a (cvs_e (l0 := k0) (x := x1))) (cv_a (cvs_e (l0 := k1) (x := x2))) hS fun l0_ l1_ => w96 (by omega) l0_ x1 l1_ x2) <| q_p fr <| q_if (fun h1 => ?_) (fun h1 => ?_)
     ·exact q_lret 0 ⟨rfl, rfl⟩
     ·exact q_p fr <| q_norm 0 ⟨rfl, rfl⟩
    ·exact q_exit 0 ⟨rfl, rfl⟩
   ·rintro i1 s2 _ _ ⟨rfl, rfl⟩
    refine q_ite (fun _ => ?_) (fun _ => ?_)
    ·exact q_ret (cv_p rfl) rfl
    ·exact q_none
   ·rintro s2 _ _ ⟨rfl, rfl⟩
    exact q_ret (cv_p rfl) rfl
def m14 (a0 : TMsg) (a1 : TMsg) : Option (Bool) :=
 bif a0.Kind != a1.Kind then
  some false
 else
  bif a0.View != a1.View then
   some false
  else
   bif a0.From != a1.From then
    some false
   else
    bif a0.Slot != a1.Slot then
     some false
    else
     bif a0.Value != a1.Value then
      some false
     else
      (m49 a0.Certs a1.Certs).bind fun y1 =>
      bif !y1 then
       some false
      else
       (m23 a0.Refs a1.Refs).bind fun y2 =>
       bif !y2 then
        some false
       else
        some true
theorem w14 {d : Nat} (hd : 3 ≤ d) (k0 : Bool) (a0 : TMsg) (k1 : Bool) (a1 : TMsg) : Fit (R NN d 14 [.agg (Enc.cs k0 a0), .agg (Enc.cs k1 a1)] []) (m14 a0 a1) (P0 (fun (t : Bool) => AV.bool t)) := by
  obtain ⟨d, rfl, g⟩ := up hd
  refine q_in (t14 NN d _ _) ?_
  unfold b14 m14
  refine q_box (n := 7) rfl rfl (by decide) fun b1 => q_box (n := 7) rfl rfl (by decide) fun b2 => q_p fr <| q_ld 1 rfl rfl <| q_p fr <| q_ld 0 rfl rfl <| q_p fr <| q_if (fun h7 => ?_) (fun h7 => ?_)
  ·exact q_ret (cv_p rfl) rfl
  ·refine q_p fr <| q_ld 1 rfl rfl <| q_p fr <| q_ld 0 rfl rfl <| q_p fr <| q_if (fun h6 => ?_) (fun h6 => ?_)
   ·exact q_ret (cv_p rfl) rfl
   ·refine q_p fr <| q_ld 1 rfl rfl <| q_p fr <| q_ld 0 rfl rfl <| q_p fr <| q_if (fun h5 => ?_) (fun h5 => ?_)
    ·exact q_ret (cv_p rfl) rfl
    ·refine q_p fr <| q_ld 1 rfl rfl <| q_p fr <| q_ld 0 rfl rfl <| q_p fr <| q_if (fun h4 => ?_) (fun h4 => ?_)
     ·exact q_ret (cv_p rfl) rfl
     ·refine q_p fr <| q_ld 1 rfl rfl <| q_p fr <| q_ld 0 rfl rfl <| q_p fr <| q_if (fun h3 => ?_) (fun h3 => ?_)
      ·exact q_ret (cv_p rfl) rfl
      ·refine q_p fr <| q_ld 1 rfl rfl <| q_p fr <| q_ld 0 rfl rfl <| q_c0 (fun S hS => argF2 cv_r cv_r hS fun l0_ l1_ => w49 (by omega) l0_ a0.Certs l1_ a1.Certs) fun y1 hy1 => q_p fr <| q_if (fun h2 => ?_) (fun h2 => ?_)
       ·exact q_ret (cv_p rfl) rfl
       ·refine q_p fr <| q_ld 1 rfl rfl <| q_p fr <| q_ld 0 rfl rfl <| q_c0 (fun S hS => argF2 cv_r cv_r hS fun l0_ l1_ => w23 (by omega) l0_ a0.Refs l1_ a1.Refs) fun y2 hy2 => q_p fr <| q_if (fun h1 => ?_) (fun h1 => ?_)
        ·exact q_ret (cv_p rfl) rfl
        ·exact q_ret (cv_p rfl) rfl
def ms13_0 (a0 : List TMsg) (a1 : List TMsg) (s1 : Bool × Int) : Option (LO (Bool × Int)) :=
 bif decide (s1.2 < (a0.length : Int)) then
  (getI a0 s1.2).bind fun x1 =>
  (getI a1 s1.2).bind fun x2 =>
  (m14 x1 x2).bind fun y1 =>
  bif !y1 then
   some (LO.ret (false, s1.2))
  else
   some (LO.norm (s1.1, wi .i64 (s1.2 + 1)))
 else
  some (LO.exit 0 (s1.1, s1.2))
def m13 (a0 : List TMsg) (a1 : List TMsg) : Option (Bool) :=
 bif (a0.length : Int) != (a1.length : Int) then
  some false
 else
  (loopO (ms13_0 a0 a1) NN (false, 0)).bind (contO (fun _ => none) (fun i1 s2 =>
   if i1 = 0 then
    some true
   else
    none) (fun s2 =>
   some s2.1))
theorem w13 {d : Nat} (hd : 4 ≤ d) (k0 : Bool) (a0 : List TMsg) (k1 : Bool) (a1 : List TMsg) : Fit (R NN d 13 [.rsl k0 false (a0.map (Enc.cs k0)), .rsl k1 false (a1.map (Enc.cs k1))] []) (m13 a0 a1) (P0 (fun (t : Bool) => AV.bool t)) := by
  obtain ⟨d, rfl, g⟩ := up hd
  refine q_in (t13 NN d _ _) ?_
  unfold b13 m13
  refine q_len <| q_len <| q_p fr <| q_if (fun h3 => ?_) (fun h3 => ?_)
  ·exact q_ret (cv_p rfl) rfl
  ·refine q_loop (I := (fun (s : Bool × Int) l L => l = [.bool s.1, .int .i64 s.2] ∧ L = [])) 0 ⟨rfl, rfl⟩ ?_ ?_ ?_
   ·rintro s1 _ _ ⟨rfl, rfl⟩
    unfold s13_0 ms13_0
    refine q_len <| q_p fr <| q_if (fun h2 => ?_) (fun h2 => ?_)
    ·refine q_ix rfl fun x1 hx1 => q_p fr <| q_ix rfl fun x2 hx2 => q_p fr <| q_c0 (fun S hS => argF2 (cv_a (cvs_e (l0 := k0) (x := x1))) (cv_a (cvs_e (l0 := k1) (x := x2))) hS fun l0_ l1_ => w14 (by omega) l0_ x1 l1_ x2) fun y1 hy1 => q_p fr <| q_if (fun h1 => ?_) (fun h1 => ?_)
     ·exact q_lret 0 ⟨rfl, rfl⟩
     ·exact q_p fr <| q_norm 0 ⟨rfl, rfl⟩
    ·exact q_exit 0 ⟨rfl, rfl⟩
   ·rintro i1 s2 _ _ ⟨rfl, rfl⟩
    refine q_ite (fun _ => ?_) (fun _ => ?_)
    ·exact q_ret (cv_p rfl) rfl
    ·exact q_none
   ·rintro s2 _ _ ⟨rfl, rfl⟩
    exact q_ret (cv_p rfl) rfl
def m123 (a0 : TReplica) (a1 : TReplica) : Bool :=
 bif a0.Id != a1.Id then
  false
 else
  bif a0.View != a1.View then
   false
  else
   bif a0.Start != a1.Start then
    false
   else
    bif a0.Done != a1.Done then
     false
    else
     true
theorem w123 {d : Nat} (hd : 1 ≤ d) (k0 : Bool) (a0 : TReplica) (k1 : Bool) (a1 : TReplica) : Fit (R NN d 123 [.agg (Enc.cs k0 a0), .agg (Enc.cs k1 a1)] []) (some (m123 a0 a1)) (P0 (fun (t : Bool) => AV.bool t)) := by
  obtain ⟨d, rfl, g⟩ := up hd
  refine q_in (t123 NN d _ _) ?_
  unfold b123 m123
  refine q_box (n := 4) rfl rfl (by decide) fun b1 => q_box (n := 4) rfl rfl (by decide) fun b2 => q_p fr <| q_ld 1 rfl rfl <| q_p fr <| q_ld 0 rfl rfl <| q_p fr <| q_ift (fun h4 => ?_) (fun h4 => ?_)
  ·exact q_ret (cv_p rfl) rfl
  ·refine q_p fr <| q_ld 1 rfl rfl <| q_p fr <| q_ld 0 rfl rfl <| q_p fr <| q_ift (fun h3 => ?_) (fun h3 => ?_)
   ·exact q_ret (cv_p rfl) rfl
   ·refine q_p fr <| q_ld 1 rfl rfl <| q_p fr <| q_ld 0 rfl rfl <| q_p fr <| q_ift (fun h2 => ?_) (fun h2 => ?_)
    ·exact q_ret (cv_p rfl) rfl
    ·refine q_p fr <| q_ld 1 rfl rfl <| q_p fr <| q_ld 0 rfl rfl <| q_p fr <| q_ift (fun h1 => ?_) (fun h1 => ?_)
     ·exact q_ret (cv_p rfl) rfl
     ·exact q_ret (cv_p rfl) rfl
def ms101_0 (a0 : List TReplica) (a1 : List TReplica) (s1 : Bool × Int) : Option (LO (Bool × Int)) :=
 bif decide (s1.2 < (a0.length : Int)) then
  (getI a0 s1.2).bind fun x1 =>
  (getI a1 s1.2).bind fun x2 =>
  bif !(m123 x1 x2) then
   some (LO.ret (false, s1.2))
  else
   some (LO.norm (s1.1, wi .i64 (s1.2 + 1)))
 else
  some (LO.exit 0 (s1.1, s1.2))
def m101 (a0 : List TReplica) (a1 : List TReplica) : Option (Bool) :=
 bif (a0.length : Int) != (a1.length : Int) then
  some false
 else
  (loopO (ms101_0 a0 a1) NN (false, 0)).bind (contO (fun _ => none) (fun i1 s2 =>
   if i1 = 0 then
    some true
   else
    none) (fun s2 =>
   some s2.1))
theorem w101 {d : Nat} (hd : 2 ≤ d) (k0 : Bool) (a0 : List TReplica) (k1 : Bool) (a1 : List TReplica) : Fit (R NN d 101 [.rsl k0 false (a0.map (Enc.cs k0)), .rsl k1 false (a1.map (Enc.cs k1))] []) (m101 a0 a1) (P0 (fun (t : Bool) => AV.bool t)) := by
  obtain ⟨d, rfl, g⟩ := up hd
  refine q_in (t101 NN d _ _) ?_
  unfold b101 m101
  refine q_len <| q_len <| q_p fr <| q_if (fun h3 => ?_) (fun h3 => ?_)
  ·exact q_ret (cv_p rfl) rfl
  ·refine q_loop (I := (fun (s : Bool × Int) l L => l = [.bool s.1, .int .i64 s.2] ∧ L = [])) 0 ⟨rfl, rfl⟩ ?_ ?_ ?_
   ·rintro s1 _ _ ⟨rfl, rfl⟩
    unfold s101_0 ms101_0
    refine q_len <| q_p fr <| q_if (fun h2 => ?_) (fun h2 => ?_)
    ·refine q_ix rfl fun x1 hx1 => q_p fr <| q_ix rfl fun x2 hx2 => q_p fr <| q_c0t (fun S hS => argF2 (cv_a (cvs_e (l0 := k0) (x := x1))) (cv_a (cvs_e (l0 := k1) (x := x2))) hS fun l0_ l1_ => w123 (by omega) l0_ x1 l1_ x2) <| q_p fr <| q_if (fun h1 => ?_) (fun h1 => ?_)
     ·exact q_lret 0 ⟨rfl, rfl⟩
     ·exact q_p fr <| q_norm 0 ⟨rfl, rfl⟩
    ·exact q_exit 0 ⟨rfl, rfl⟩
   ·rintro i1 s2 _ _ ⟨rfl, rfl⟩
    refine q_ite (fun _ => ?_) (fun _ => ?_)
    ·exact q_ret (cv_p rfl) rfl
    ·exact q_none
   ·rintro s2 _ _ ⟨rfl, rfl⟩
    exact q_ret (cv_p rfl) rfl
def m144 (a0 : TOp) (a1 : TOp) : Bool :=
 bif a0.Kind != a1.Kind then
  false
 else
  bif !(a0.Path == a1.Path) then
   false
  else
   bif a0.Data != a1.Data then
    false
   else
    bif a0.Version != a1.Version then
     false
    else
     bif a0.Seq != a1.Seq then
      false
     else
      bif a0.Own != a1.Own then
       false
      else
       true
theorem w144 {d : Nat} (hd : 1 ≤ d) (k0 : Bool) (a0 : TOp) (k1 : Bool) (a1 : TOp) : Fit (R NN d 144 [.agg (Enc.cs k0 a0), .agg (Enc.cs k1 a1)] []) (some (m144 a0 a1)) (P0 (fun (t : Bool) => AV.bool t)) := by
  obtain ⟨d, rfl, g⟩ := up hd
  refine q_in (t144 NN d _ _) ?_
  unfold b144 m144
  refine q_box (n := 6) rfl rfl (by decide) fun b1 => q_box (n := 6) rfl rfl (by decide) fun b2 => q_p fr <| q_ld 1 rfl rfl <| q_p fr <| q_ld 0 rfl rfl <| q_p fr <| q_ift (fun h6 => ?_) (fun h6 => ?_)
  ·exact q_ret (cv_p rfl) rfl
  ·refine q_p fr <| q_ld 1 rfl rfl <| q_p fr <| q_ld 0 rfl rfl <| q_p (fun _ => seq_neq2) <| q_ift (fun h5 => ?_) (fun h5 => ?_)
   ·exact q_ret (cv_p rfl) rfl
   ·refine q_p fr <| q_ld 1 rfl rfl <| q_p fr <| q_ld 0 rfl rfl <| q_p fr <| q_ift (fun h4 => ?_) (fun h4 => ?_)
    ·exact q_ret (cv_p rfl) rfl
    ·refine q_p fr <| q_ld 1 rfl rfl <| q_p fr <| q_ld 0 rfl rfl <| q_p fr <| q_ift (fun h3 => ?_) (fun h3 => ?_)
     ·exact q_ret (cv_p rfl) rfl
     ·refine q_p fr <| q_ld 1 rfl rfl <| q_p fr <| q_ld 0 rfl rfl <| q_p (fun _ => bneq42 _ _) <| q_ift (fun h2 => ?_) (fun h2 => ?_)
      ·exact q_ret (cv_p rfl) rfl
      ·refine q_p fr <| q_ld 1 rfl rfl <| q_p fr <| q_ld 0 rfl rfl <| q_p (fun _ => bneq42 _ _) <| q_ift (fun h1 => ?_) (fun h1 => ?_)
       ·exact q_ret (cv_p rfl) rfl
       ·exact q_ret (cv_p rfl) rfl
def ms132_0 (a0 : List TOp) (a1 : List TOp) (s1 : Bool × Int) : Option (LO (Bool × Int)) :=
 bif decide (s1.2 < (a0.length : Int)) then
  (getI a0 s1.2).bind fun x1 =>
  (getI a1 s1.2).bind fun x2 =>
  bif !(m144 x1 x2) then
   some (LO.ret (false, s1.2))
  else
   some (LO.norm (s1.1, wi .i64 (s1.2 + 1)))
 else
  some (LO.exit 0 (s1.1, s1.2))
def m132 (a0 : List TOp) (a1 : List TOp) : Option (Bool) :=
 bif (a0.length : Int) != (a1.length : Int) then
  some false
 else
  (loopO (ms132_0 a0 a1) NN (false, 0)).bind (contO (fun _ => none) (fun i1 s2 =>
   if i1 = 0 then
    some true
   else
    none) (fun s2 =>
   some s2.1))
theorem w132 {d : Nat} (hd : 2 ≤ d) (k0 : Bool) (a0 : List TOp) (k1 : Bool) (a1 : List TOp) : Fit (R NN d 132 [.rsl k0 false (a0.map (Enc.cs k0)), .rsl k1 false (a1.map (Enc.cs k1))] []) (m132 a0 a1) (P0 (fun (t : Bool) => AV.bool t)) := by
  obtain ⟨d, rfl, g⟩ := up hd
  refine q_in (t132 NN d _ _) ?_
  unfold b132 m132
  refine q_len <| q_len <| q_p fr <| q_if (fun h3 => ?_) (fun h3 => ?_)
  ·exact q_ret (cv_p rfl) rfl
  ·refine q_loop (I := (fun (s : Bool × Int) l L => l = [.bool s.1, .int .i64 s.2] ∧ L = [])) 0 ⟨rfl, rfl⟩ ?_ ?_ ?_
   ·rintro s1 _ _ ⟨rfl, rfl⟩
    unfold s132_0 ms132_0
    refine q_len <| q_p fr <| q_if (fun h2 => ?_) (fun h2 => ?_)
    ·refine q_ix rfl fun x1 hx1 => q_p fr <| q_ix rfl fun x2 hx2 => q_p fr <| q_c0t (fun S hS => argF2 (cv_a (cvs_e (l0 := k0) (x := x1))) (cv_a (cvs_e (l0 := k1) (x := x2))) hS fun l0_ l1_ => w144 (by omega) l0_ x1 l1_ x2) <| q_p fr <| q_if (fun h1 => ?_) (fun h1 => ?_)
     ·exact q_lret 0 ⟨rfl, rfl⟩
     ·exact q_p fr <| q_norm 0 ⟨rfl, rfl⟩
    ·exact q_exit 0 ⟨rfl, rfl⟩
   ·rintro i1 s2 _ _ ⟨rfl, rfl⟩
    refine q_ite (fun _ => ?_) (fun _ => ?_)
    ·exact q_ret (cv_p rfl) rfl
    ·exact q_none
   ·rintro s2 _ _ ⟨rfl, rfl⟩
    exact q_ret (cv_p rfl) rfl
def m124 (a0 : TRequest) (a1 : TRequest) : Option (Bool) :=
 bif a0.Client != a1.Client then
  some false
 else
  bif a0.Number != a1.Number then
   some false
  else
   bif a0.Time != a1.Time then
    some false
   else
    (m132 a0.Ops a1.Ops).bind fun y1 =>
    bif !y1 then
     some false
    else
     some true
theorem w124 {d : Nat} (hd : 3 ≤ d) (k0 : Bool) (a0 : TRequest) (k1 : Bool) (a1 : TRequest) : Fit (R NN d 124 [.agg (Enc.cs k0 a0), .agg (Enc.cs k1 a1)] []) (m124 a0 a1) (P0 (fun (t : Bool) => AV.bool t)) := by
  obtain ⟨d, rfl, g⟩ := up hd
  refine q_in (t124 NN d _ _) ?_
  unfold b124 m124
  refine q_box (n := 4) rfl rfl (by decide) fun b1 => q_box (n := 4) rfl rfl (by decide) fun b2 => q_p fr <| q_ld 1 rfl rfl <| q_p fr <| q_ld 0 rfl rfl <| q_p fr <| q_if (fun h4 => ?_) (fun h4 => ?_)
  ·exact q_ret (cv_p rfl) rfl
  ·refine q_p fr <| q_ld 1 rfl rfl <| q_p fr <| q_ld 0 rfl rfl <| q_p fr <| q_if (fun h3 => ?_) (fun h3 => ?_)
   ·exact q_ret (cv_p rfl) rfl
   ·refine q_p fr <| q_ld 1 rfl rfl <| q_p fr <| q_ld 0 rfl rfl <| q_p fr <| q_if (fun h2 => ?_) (fun h2 => ?_)
    ·exact q_ret (cv_p rfl) rfl
    ·refine q_p fr <| q_ld 1 rfl rfl <| q_p fr <| q_ld 0 rfl rfl <| q_c0 (fun S hS => argF2 cv_r cv_r hS fun l0_ l1_ => w132 (by omega) l0_ a0.Ops l1_ a1.Ops) fun y1 hy1 => q_p fr <| q_if (fun h1 => ?_) (fun h1 => ?_)
     ·exact q_ret (cv_p rfl) rfl
     ·exact q_ret (cv_p rfl) rfl
def ms102_0 (a0 : List TRequest) (a1 : List TRequest) (s1 : Bool × Int) : Option (LO (Bool × Int)) :=
 bif decide (s1.2 < (a0.length : Int)) then
  (getI a0 s1.2).bind fun x1 =>
  (getI a1 s1.2).bind fun x2 =>
  (m124 x1 x2).bind fun y1 =>
  bif !y1 then
   some (LO.ret (false, s1.2))
  else
   some (LO.norm (s1.1, wi .i64 (s1.2 + 1)))
 else
  some (LO.exit 0 (s1.1, s1.2))
def m102 (a0 : List TRequest) (a1 : List TRequest) : Option (Bool) :=
 bif (a0.length : Int) != (a1.length : Int) then
  some false
 else
  (loopO (ms102_0 a0 a1) NN (false, 0)).bind (contO (fun _ => none) (fun i1 s2 =>
   if i1 = 0 then
    some true
   else
    none) (fun s2 =>
   some s2.1))
theorem w102 {d : Nat} (hd : 4 ≤ d) (k0 : Bool) (a0 : List TRequest) (k1 : Bool) (a1 : List TRequest) : Fit (R NN d 102 [.rsl k0 false (a0.map (Enc.cs k0)), .rsl k1 false (a1.map (Enc.cs k1))] []) (m102 a0 a1) (P0 (fun (t : Bool) => AV.bool t)) := by
  obtain ⟨d, rfl, g⟩ := up hd
  refine q_in (t102 NN d _ _) ?_
  unfold b102 m102
  refine q_len <| q_len <| q_p fr <| q_if (fun h3 => ?_) (fun h3 => ?_)
  ·exact q_ret (cv_p rfl) rfl
  ·refine q_loop (I := (fun (s : Bool × Int) l L => l = [.bool s.1, .int .i64 s.2] ∧ L = [])) 0 ⟨rfl, rfl⟩ ?_ ?_ ?_
   ·rintro s1 _ _ ⟨rfl, rfl⟩
    unfold s102_0 ms102_0
    refine q_len <| q_p fr <| q_if (fun h2 => ?_) (fun h2 => ?_)
    ·refine q_ix rfl fun x1 hx1 => q_p fr <| q_ix rfl fun x2 hx2 => q_p fr <| q_c0 (fun S hS => argF2 (cv_a (cvs_e (l0 := k0) (x := x1))) (cv_a (cvs_e (l0 := k1) (x := x2))) hS fun l0_ l1_ => w124 (by omega) l0_ x1 l1_ x2) fun y1 hy1 => q_p fr <| q_if (fun h1 => ?_) (fun h1 => ?_)
     ·exact q_lret 0 ⟨rfl, rfl⟩
     ·exact q_p fr <| q_norm 0 ⟨rfl, rfl⟩
    ·exact q_exit 0 ⟨rfl, rfl⟩
   ·rintro i1 s2 _ _ ⟨rfl, rfl⟩
    refine q_ite (fun _ => ?_) (fun _ => ?_)
    ·exact q_ret (cv_p rfl) rfl
    ·exact q_none
   ·rintro s2 _ _ ⟨rfl, rfl⟩
    exact q_ret (cv_p rfl) rfl
def m60 (a0 : TCluster) (a1 : TCluster) : Option (Bool) :=
 bif a0.F != a1.F then
  some false
 else
  (m23 a0.Bad a1.Bad).bind fun y1 =>
  bif !y1 then
   some false
  else
   (m101 a0.Replicas a1.Replicas).bind fun y2 =>
   bif !y2 then
    some false
   else
    (m13 a0.Ledger a1.Ledger).bind fun y3 =>
    bif !y3 then
     some false
    else
     (m102 a0.Requests a1.Requests).bind fun y4 =>
     bif !y4 then
      some false
     else
      some true
theorem w60 {d : Nat} (hd : 5 ≤ d) (k0 : Bool) (a0 : TCluster) (k1 : Bool) (a1 : TCluster) : Fit (R NN d 60 [.agg (Enc.cs k0 a0), .agg (Enc.cs k1 a1)] []) (m60 a0 a1) (P0 (fun (t : Bool) => AV.bool t)) := by
  obtain ⟨d, rfl, g⟩ := up hd
  refine q_in (t60 NN d _ _) ?_
  unfold b60 m60
  refine q_box (n := 5) rfl rfl (by decide) fun b1 => q_box (n := 5) rfl rfl (by decide) fun b2 => q_p fr <| q_ld 1 rfl rfl <| q_p fr <| q_ld 0 rfl rfl <| q_p fr <| q_if (fun h5 => ?_) (fun h5 => ?_)
  ·exact q_ret (cv_p rfl) rfl
  ·refine q_p fr <| q_ld 1 rfl rfl <| q_p fr <| q_ld 0 rfl rfl <| q_c0 (fun S hS => argF2 cv_r cv_r hS fun l0_ l1_ => w23 (by omega) l0_ a0.Bad l1_ a1.Bad) fun y1 hy1 => q_p fr <| q_if (fun h4 => ?_) (fun h4 => ?_)
   ·exact q_ret (cv_p rfl) rfl
   ·refine q_p fr <| q_ld 1 rfl rfl <| q_p fr <| q_ld 0 rfl rfl <| q_c0 (fun S hS => argF2 cv_r cv_r hS fun l0_ l1_ => w101 (by omega) l0_ a0.Replicas l1_ a1.Replicas) fun y2 hy2 => q_p fr <| q_if (fun h3 => ?_) (fun h3 => ?_)
    ·exact q_ret (cv_p rfl) rfl
    ·refine q_p fr <| q_ld 1 rfl rfl <| q_p fr <| q_ld 0 rfl rfl <| q_c0 (fun S hS => argF2 cv_r cv_r hS fun l0_ l1_ => w13 (by omega) l0_ a0.Ledger l1_ a1.Ledger) fun y3 hy3 => q_p fr <| q_if (fun h2 => ?_) (fun h2 => ?_)
     ·exact q_ret (cv_p rfl) rfl
     ·refine q_p fr <| q_ld 1 rfl rfl <| q_p fr <| q_ld 0 rfl rfl <| q_c0 (fun S hS => argF2 cv_r cv_r hS fun l0_ l1_ => w102 (by omega) l0_ a0.Requests l1_ a1.Requests) fun y4 hy4 => q_p fr <| q_if (fun h1 => ?_) (fun h1 => ?_)
      ·exact q_ret (cv_p rfl) rfl
      ·exact q_ret (cv_p rfl) rfl
def m22 (a0 : TClusterResult) (a1 : TClusterResult) : Option (Bool) :=
 bif a0.Code != a1.Code then
  some false
 else
  (m60 a0.Cluster a1.Cluster).bind fun y1 =>
  bif !y1 then
   some false
  else
   some true
theorem w22 {d : Nat} (hd : 6 ≤ d) (k0 : Bool) (a0 : TClusterResult) (k1 : Bool) (a1 : TClusterResult) : Fit (R NN d 22 [.agg (Enc.cs k0 a0), .agg (Enc.cs k1 a1)] []) (m22 a0 a1) (P0 (fun (t : Bool) => AV.bool t)) := by
  obtain ⟨d, rfl, g⟩ := up hd
  refine q_in (t22 NN d _ _) ?_
  unfold b22 m22
  refine q_box (n := 6) rfl rfl (by decide) fun b1 => q_box (n := 6) rfl rfl (by decide) fun b2 => q_p fr <| q_ld 1 rfl rfl <| q_p fr <| q_ld 0 rfl rfl <| q_p fr <| q_if (fun h2 => ?_) (fun h2 => ?_)
  ·exact q_ret (cv_p rfl) rfl
  ·refine q_p fr <| q_lda 1 rfl rfl rfl <| q_p fr <| q_lda 0 rfl rfl rfl <| q_c0 (fun S hS => argF2 (cv_a (cvs_e (l0 := k0) (x := a0.Cluster))) (cv_a (cvs_e (l0 := k1) (x := a1.Cluster))) hS fun l0_ l1_ => w60 (by omega) l0_ a0.Cluster l1_ a1.Cluster) fun y1 hy1 => q_p fr <| q_if (fun h1 => ?_) (fun h1 => ?_)
   ·exact q_ret (cv_p rfl) rfl
   ·exact q_ret (cv_p rfl) rfl
def ms24_0 (s1 : Int × Int × (List Int)) : Option (LO (Int × Int × (List Int))) :=
 bif decide (s1.2.1 < (s1.2.2.length : Int)) then
  (getI s1.2.2 s1.2.1).bind fun x1 =>
  letO (s1.2.2.set (Int.toNat s1.2.1) s1.1) fun z1 =>
  some (LO.norm (wi .i64 (s1.1 + 1), wi .i64 (s1.2.1 + 1), z1))
 else
  some (LO.exit 0 (s1.1, s1.2.1, s1.2.2))
def m24 (a0 : List Int) (a1 : Int) : Option (Int × (List Int)) :=
 (loopO (ms24_0) NN (a1, 0, a0)).bind (contO (fun _ => none) (fun i1 s2 =>
  if i1 = 0 then
   some (s2.1, s2.2.2)
  else
   none) (fun s2 =>
  some (0, s2.2.2)))
theorem w24 {d : Nat} (hd : 1 ≤ d) (L0 : List En) (i0_ : List Nat) (c0_0 : AV) (a0 : List Int) (a1 : Int) : Okh (tr i0_ [c0_0] (a0 : List Int) :: L0) (fun S => R NN d 24 [c0_0, .int .i64 a1] S) (m24 a0 a1) (P2 (fun (t : Int × (List Int)) => AV.int .i64 t.1) (fun (t : Int × (List Int)) => tr i0_ [c0_0] t.2 :: L0)) := by
  obtain ⟨d, rfl, g⟩ := up hd
  refine q_to (t24 NN d _ _) ?_
  unfold b24 m24
  refine q_loop (I := (fun (s : Int × Int × (List Int)) l L => l = [.int .i64 s.1, .int .i64 s.2.1] ∧ L = tr i0_ [c0_0] (s.2.2 : List Int) :: L0)) 0 ⟨rfl, rfl⟩ ?_ ?_ ?_
  ·rintro s1 _ _ ⟨rfl, rfl⟩
   unfold s24_0 ms24_0
   refine q_lent 0 rfl <| q_p fr <| q_if (fun h1 => ?_) (fun h1 => ?_)
   ·exact q_ixt 0 rfl rfl fun x1 hx1 => q_stl0 0 rfl rfl hx1 rfl (up_int (n := s1.1)) fun z1 hz1 => q_p fr <| q_p fr <| q_norm 0 ⟨rfl, rfl⟩
   ·exact q_exit 0 ⟨rfl, rfl⟩
  ·rintro i1 s2 _ _ ⟨rfl, rfl⟩
   refine q_ite (fun _ => ?_) (fun _ => ?_)
   ·exact q_ret2 0 rfl rfl
   ·exact q_none
  ·rintro s2 _ _ ⟨rfl, rfl⟩
   exact q_ret2 0 rfl rfl
def ms50_0 (s1 : Int × Int × (List TCert)) : Option (LO (Int × Int × (List TCert))) :=
 bif decide (s1.2.1 < (s1.2.2.length : Int)) then
  (getI s1.2.2 s1.2.1).bind fun x1 =>
  letO (s1.2.2.set (Int.toNat s1.2.1) ({ x1 with Slot := s1.1 })) fun z1 =>
  (getI z1 s1.2.1).bind fun x2 =>
  letO (z1.set (Int.toNat s1.2.1) ({ x2 with View := wi .i64 (s1.1 + 1) })) fun z2 =>
  (getI z2 s1.2.1).bind fun x3 =>
  letO (z2.set (Int.toNat s1.2.1) ({ x3 with Value := wi .i64 ((wi .i64 (s1.1 + 1)) + 1) })) fun z3 =>
  some (LO.norm (wi .i64 ((wi .i64 ((wi .i64 (s1.1 + 1)) + 1)) + 1), wi .i64 (s1.2.1 + 1), z3))
 else
  some (LO.exit 0 (s1.1, s1.2.1, s1.2.2))
def m50 (a0 : List TCert) (a1 : Int) : Option (Int × (List TCert)) :=
 (loopO (ms50_0) NN (a1, 0, a0)).bind (contO (fun _ => none) (fun i1 s2 =>
  if i1 = 0 then
   some (s2.1, s2.2.2)
  else
   none) (fun s2 =>
  some (0, s2.2.2)))
theorem w50 {d : Nat} (hd : 1 ≤ d) (L0 : List En) (i0_ : List Nat) (c0_0 : AV) (a0 : List TCert) (a1 : Int) : Okh (tr i0_ [c0_0] (a0 : List TCert) :: L0) (fun S => R NN d 50 [c0_0, .int .i64 a1] S) (m50 a0 a1) (P2 (fun (t : Int × (List TCert)) => AV.int .i64 t.1) (fun (t : Int × (List TCert)) => tr i0_ [c0_0] t.2 :: L0)) := by
  obtain ⟨d, rfl, g⟩ := up hd
  refine q_to (t50 NN d _ _) ?_
  unfold b50 m50
  refine q_loop (I := (fun (s : Int × Int × (List TCert)) l L => l = [.int .i64 s.1, .int .i64 s.2.1] ∧ L = tr i0_ [c0_0] (s.2.2 : List TCert) :: L0)) 0 ⟨rfl, rfl⟩ ?_ ?_ ?_
  ·rintro s1 _ _ ⟨rfl, rfl⟩
   unfold s50_0 ms50_0
   refine q_lent 0 rfl <| q_p fr <| q_if (fun h1 => ?_) (fun h1 => ?_)
   ·refine q_ixt 0 rfl rfl fun x1 hx1 => q_flt 0 rfl hx1 (by decide) <| q_stl 0 rfl rfl hx1 rfl (up115_Slot s1.1) fun z1 hz1 => q_p fr <| q_ixt 0 rfl rfl fun x2 hx2 => q_flt 0 rfl hx2 (by decide) <| q_stl 0 rfl rfl hx2 rfl (up115_View (wi .i64 (s1.1 + 1))) fun z2 hz2 => q_p fr <| q_ixt 0 rfl rfl fun x3 hx3 => q_flt 0 rfl hx3 (by decide) <| q_stl 0 rfl rfl hx3 rfl (up115_Value (wi .i64 ((wi .i64 (s1.1 + 1)) + 1))) fun z3 hz3 => q_p fr <| q_p fr ?_
    exact q_norm 0 ⟨rfl, rfl⟩
   ·exact q_exit 0 ⟨rfl, rfl⟩
  ·rintro i1 s2 _ _ ⟨rfl, rfl⟩
   refine q_ite (fun _ => ?_) (fun _ => ?_)
   ·exact q_ret2 0 rfl rfl
   ·exact q_none
  ·rintro s2 _ _ ⟨rfl, rfl⟩
   exact q_ret2 0 rfl rfl
def ms15_0 (s1 : Int × Int × (List TMsg)) : Option (LO (Int × Int × (List TMsg))) :=
 bif decide (s1.2.1 < (s1.2.2.length : Int)) then
  (getI s1.2.2 s1.2.1).bind fun x1 =>
  letO (s1.2.2.set (Int.toNat s1.2.1) ({ x1 with Kind := s1.1 })) fun z1 =>
  (getI z1 s1.2.1).bind fun x2 =>
  letO (z1.set (Int.toNat s1.2.1) ({ x2 with View := wi .i64 (s1.1 + 1) })) fun z2 =>
  (getI z2 s1.2.1).bind fun x3 =>
  letO (z2.set (Int.toNat s1.2.1) ({ x3 with From := wi .i64 ((wi .i64 (s1.1 + 1)) + 1) })) fun z3 =>
  (getI z3 s1.2.1).bind fun x4 =>
  letO (z3.set (Int.toNat s1.2.1) ({ x4 with Slot := wi .i64 ((wi .i64 ((wi .i64 (s1.1 + 1)) + 1)) + 1) })) fun z4 =>
  (getI z4 s1.2.1).bind fun x5 =>
  letO (z4.set (Int.toNat s1.2.1) ({ x5 with Value := wi .i64 ((wi .i64 ((wi .i64 ((wi .i64 (s1.1 + 1)) + 1)) + 1)) + 1) })) fun z5 =>
  (getI z5 s1.2.1).bind fun x6 =>
  (m50 x6.Certs (wi .i64 ((wi .i64 ((wi .i64 ((wi .i64 ((wi .i64 (s1.1 + 1)) + 1)) + 1)) + 1)) + 1))).bind fun y1 =>
  letO (z5.set (Int.toNat s1.2.1) ({ x6 with Certs := y1.2 })) fun z6 =>
  (getI z6 s1.2.1).bind fun x7 =>
  (m24 x7.Refs y1.1).bind fun y2 =>
  letO (z6.set (Int.toNat s1.2.1) ({ x7 with Refs := y2.2 })) fun z7 =>
  some (LO.norm (y2.1, wi .i64 (s1.2.1 + 1), z7))
 else
  some (LO.exit 0 (s1.1, s1.2.1, s1.2.2))
def m15 (a0 : List TMsg) (a1 : Int) : Option (Int × (List TMsg)) :=
 (loopO (ms15_0) NN (a1, 0, a0)).bind (contO (fun _ => none) (fun i1 s2 =>
  if i1 = 0 then
   some (s2.1, s2.2.2)
  else
   none) (fun s2 =>
  some (0, s2.2.2)))
theorem w15 {d : Nat} (hd : 2 ≤ d) (L0 : List En) (i0_ : List Nat) (c0_0 : AV) (a0 : List TMsg) (a1 : Int) : Okh (tr i0_ [c0_0] (a0 : List TMsg) :: L0) (fun S => R NN d 15 [c0_0, .int .i64 a1] S) (m15 a0 a1) (P2 (fun (t : Int × (List TMsg)) => AV.int .i64 t.1) (fun (t : Int × (List TMsg)) => tr i0_ [c0_0] t.2 :: L0)) := by
  obtain ⟨d, rfl, g⟩ := up hd
  refine q_to (t15 NN d _ _) ?_
  unfold b15 m15
  refine q_loop (I := (fun (s : Int × Int × (List TMsg)) l L => l = [.int .i64 s.1, .int .i64 s.2.1] ∧ L = tr i0_ [c0_0] (s.2.2 : List TMsg) :: L0)) 0 ⟨rfl, rfl⟩ ?_ ?_ ?_
  ·rintro s1 _ _ ⟨rfl, rfl⟩
   unfold s15_0 ms15_0
   refine q_lent 0 rfl <| q_p fr <| q_if (fun h1 => ?_) (fun h1 => ?_)
   ·refine q_ixt 0 rfl rfl fun x1 hx1 => q_flt 0 rfl hx1 (by decide) <| q_stl 0 rfl rfl hx1 rfl (up36_Kind s1.1) fun z1 hz1 => q_p fr <| q_ixt 0 rfl rfl fun x2 hx2 => q_flt 0 rfl hx2 (by decide) <| q_stl 0 rfl rfl hx2 rfl (up36_View (wi .i64 (s1.1 + 1))) fun z2 hz2 => q_p fr <| q_ixt 0 rfl rfl fun x3 hx3 => q_flt 0 rfl hx3 (by decide) <| q_stl 0 rfl rfl hx3 rfl (up36_From (wi .i64 ((wi .i64 (s1.1 + 1)) + 1))) fun z3 hz3 => q_p fr <| q_ixt 0 rfl rfl fun x4 hx4 => ?_
    refine q_flt 0 rfl hx4 (by decide) <| q_stl 0 rfl rfl hx4 rfl (up36_Slot (wi .i64 ((wi .i64 ((wi .i64 (s1.1 + 1)) + 1)) + 1))) fun z4 hz4 => q_p fr <| q_ixt 0 rfl rfl fun x5 hx5 => q_flt 0 rfl hx5 (by decide) <| q_stl 0 rfl rfl hx5 rfl (up36_Value (wi .i64 ((wi .i64 ((wi .i64 ((wi .i64 (s1.1 + 1)) + 1)) + 1)) + 1))) fun z5 hz5 => q_p fr <| q_ixt 0 rfl rfl fun x6 hx6 => q_flt 0 rfl hx6 (by decide) <| q_ldf rfl rfl hx6 fo36_Certs fun w1 ic1 => q_s (mg := m50 x6.Certs (wi .i64 ((wi .i64 ((wi .i64 ((wi .i64 ((wi .i64 (s1.1 + 1)) + 1)) + 1)) + 1)) + 1))) (w50 (by omega) _ ic1 w1 x6.Certs (wi .i64 ((wi .i64 ((wi .i64 ((wi .i64 ((wi .i64 (s1.1 + 1)) + 1)) + 1)) + 1)) + 1))) fun y1 hy1 => q_putl fun z6 hz6 => q_ixt 0 rfl rfl fun x7 hx7 => ?_
    exact q_flt 0 rfl hx7 (by decide) <| q_ldf rfl rfl hx7 fo36_Refs fun w2 ic2 => q_s (mg := m24 x7.Refs y1.1) (w24 (by omega) _ ic2 w2 x7.Refs y1.1) fun y2 hy2 => q_putl fun z7 hz7 => q_p fr <| q_norm 0 ⟨rfl, rfl⟩
   ·exact q_exit 0 ⟨rfl, rfl⟩
  ·rintro i1 s2 _ _ ⟨rfl, rfl⟩
   refine q_ite (fun _ => ?_) (fun _ => ?_)
   ·exact q_ret2 0 rfl rfl
   ·exact q_none
  ·rintro s2 _ _ ⟨rfl, rfl⟩
   exact q_ret2 0 rfl rfl
def ms103_0 (s1 : Int × Int × (List TReplica)) : Option (LO (Int × Int × (List TReplica))) :=
 bif decide (s1.2.1 < (s1.2.2.length : Int)) then
  (getI s1.2.2 s1.2.1).bind fun x1 =>
  letO (s1.2.2.set (Int.toNat s1.2.1) ({ x1 with Id := s1.1 })) fun z1 =>
  (getI z1 s1.2.1).bind fun x2 =>
  letO (z1.set (Int.toNat s1.2.1) ({ x2 with View := wi .i64 (s1.1 + 1) })) fun z2 =>
  (getI z2 s1.2.1).bind fun x3 =>
  letO (z2.set (Int.toNat s1.2.1) ({ x3 with Start := wi .i64 ((wi .i64 (s1.1 + 1)) + 1) })) fun z3 =>
  (getI z3 s1.2.1).bind fun x4 =>
  letO (z3.set (Int.toNat s1.2.1) ({ x4 with Done := wi .i64 ((wi .i64 ((wi .i64 (s1.1 + 1)) + 1)) + 1) })) fun z4 =>
  some (LO.norm (wi .i64 ((wi .i64 ((wi .i64 ((wi .i64 (s1.1 + 1)) + 1)) + 1)) + 1), wi .i64 (s1.2.1 + 1), z4))
 else
  some (LO.exit 0 (s1.1, s1.2.1, s1.2.2))
def m103 (a0 : List TReplica) (a1 : Int) : Option (Int × (List TReplica)) :=
 (loopO (ms103_0) NN (a1, 0, a0)).bind (contO (fun _ => none) (fun i1 s2 =>
  if i1 = 0 then
   some (s2.1, s2.2.2)
  else
   none) (fun s2 =>
  some (0, s2.2.2)))
theorem w103 {d : Nat} (hd : 1 ≤ d) (L0 : List En) (i0_ : List Nat) (c0_0 : AV) (a0 : List TReplica) (a1 : Int) : Okh (tr i0_ [c0_0] (a0 : List TReplica) :: L0) (fun S => R NN d 103 [c0_0, .int .i64 a1] S) (m103 a0 a1) (P2 (fun (t : Int × (List TReplica)) => AV.int .i64 t.1) (fun (t : Int × (List TReplica)) => tr i0_ [c0_0] t.2 :: L0)) := by
  obtain ⟨d, rfl, g⟩ := up hd
  refine q_to (t103 NN d _ _) ?_
  unfold b103 m103
  refine q_loop (I := (fun (s : Int × Int × (List TReplica)) l L => l = [.int .i64 s.1, .int .i64 s.2.1] ∧ L = tr i0_ [c0_0] (s.2.2 : List TReplica) :: L0)) 0 ⟨rfl, rfl⟩ ?_ ?_ ?_
  ·rintro s1 _ _ ⟨rfl, rfl⟩
   unfold s103_0 ms103_0
   refine q_lent 0 rfl <| q_p fr <| q_if (fun h1 => ?_) (fun h1 => ?_)
   ·refine q_ixt 0 rfl rfl fun x1 hx1 => q_flt 0 rfl hx1 (by decide) <| q_stl 0 rfl rfl hx1 rfl (up94_Id s1.1) fun z1 hz1 => q_p fr <| q_ixt 0 rfl rfl fun x2 hx2 => q_flt 0 rfl hx2 (by decide) <| q_stl 0 rfl rfl hx2 rfl (up94_View (wi .i64 (s1.1 + 1))) fun z2 hz2 => q_p fr <| q_ixt 0 rfl rfl fun x3 hx3 => q_flt 0 rfl hx3 (by decide) <| q_stl 0 rfl rfl hx3 rfl (up94_Start (wi .i64 ((wi .i64 (s1.1 + 1)) + 1))) fun z3 hz3 => q_p fr <| q_ixt 0 rfl rfl fun x4 hx4 => ?_
    exact q_flt 0 rfl hx4 (by decide) <| q_stl 0 rfl rfl hx4 rfl (up94_Done (wi .i64 ((wi .i64 ((wi .i64 (s1.1 + 1)) + 1)) + 1))) fun z4 hz4 => q_p fr <| q_p fr <| q_norm 0 ⟨rfl, rfl⟩
   ·exact q_exit 0 ⟨rfl, rfl⟩
  ·rintro i1 s2 _ _ ⟨rfl, rfl⟩
   refine q_ite (fun _ => ?_) (fun _ => ?_)
   ·exact q_ret2 0 rfl rfl
   ·exact q_none
  ·rintro s2 _ _ ⟨rfl, rfl⟩
   exact q_ret2 0 rfl rfl
def ms70_0 (s1 : Int × Str) : Option (LO (Int × Str)) :=
 bif decide (s1.1 > 0) then
  (catO ([UInt8.ofNat (Int.toNat (wi .u8 (wi .i64 (48 + (Int.tmod s1.1 10)))))] : Str) s1.2).bind fun t1 =>
  some (LO.norm (wi .i64 (Int.tdiv s1.1 10), t1))
 else
  some (LO.exit 0 (s1.1, s1.2))
def m70 (a0 : Int) : Option (Str) :=
 bif decide (a0 ≤ 0) then
  some ([109, 48] : Str)
 else
  (loopO (ms70_0) NN (a0, ([] : Str))).bind (contO (fun _ => none) (fun i1 s2 =>
   if i1 = 0 then
    (catO ([109] : Str) s2.2).bind fun t2 =>
    some t2
   else
    none) (fun s2 =>
   some ([] : Str)))
theorem w70 {d : Nat} (hd : 1 ≤ d) (a0 : Int) : Fit (R NN d 70 [.int .i64 a0] []) (m70 a0) (P0 encS) := by
  obtain ⟨d, rfl, g⟩ := up hd
  refine q_in (t70 NN d _) ?_
  unfold b70 m70
  refine q_p fr <| q_if (fun h2 => ?_) (fun h2 => ?_)
  ·exact q_ret (cv_p rfl) rfl
  ·refine q_loop (I := (fun (s : Int × Str) l L => l = [.int .i64 s.1, encS s.2] ∧ L = [])) 0 ⟨rfl, rfl⟩ ?_ ?_ ?_
   ·rintro s1 _ _ ⟨rfl, rfl⟩
    unfold s70_0 ms70_0
    refine q_p fr <| q_if (fun h1 => ?_) (fun h1 => ?_)
    ·exact q_p fr <| q_p fr <| q_p (fun _ => cvt3_5 _ _) <| q_e (fun _ => bs137_1 rfl) <| q_p (fun _ => cvb137_9 _ _) <| q_cat2 fun t1 ht1 => q_p fr <| q_norm 0 ⟨rfl, rfl⟩
    ·exact q_exit 0 ⟨rfl, rfl⟩
   ·rintro i1 s2 _ _ ⟨rfl, rfl⟩
    refine q_ite (fun _ => ?_) (fun _ => ?_)
    ·exact q_cat fun t2 ht2 => q_ret (cv_p rfl) rfl
    ·exact q_none
   ·rintro s2 _ _ ⟨rfl, rfl⟩
    exact q_ret (cv_p rfl) rfl
def ms125_0 (s1 : Int × Int × (List TOp)) : Option (LO (Int × Int × (List TOp))) :=
 bif decide (s1.2.1 < (s1.2.2.length : Int)) then
  (getI s1.2.2 s1.2.1).bind fun x1 =>
  letO (s1.2.2.set (Int.toNat s1.2.1) ({ x1 with Kind := s1.1 })) fun z1 =>
  (m70 (wi .i64 (s1.1 + 1))).bind fun y1 =>
  (getI z1 s1.2.1).bind fun x2 =>
  letO (z1.set (Int.toNat s1.2.1) ({ x2 with Path := y1 })) fun z2 =>
  (getI z2 s1.2.1).bind fun x3 =>
  letO (z2.set (Int.toNat s1.2.1) ({ x3 with Data := wi .i64 ((wi .i64 (s1.1 + 1)) + 1) })) fun z3 =>
  (getI z3 s1.2.1).bind fun x4 =>
  letO (z3.set (Int.toNat s1.2.1) ({ x4 with Version := wi .i64 ((wi .i64 ((wi .i64 (s1.1 + 1)) + 1)) + 1) })) fun z4 =>
  (getI z4 s1.2.1).bind fun x5 =>
  letO (z4.set (Int.toNat s1.2.1) ({ x5 with Seq := (Int.tmod (wi .i64 ((wi .i64 ((wi .i64 ((wi .i64 (s1.1 + 1)) + 1)) + 1)) + 1)) 3) == 0 })) fun z5 =>
  (getI z5 s1.2.1).bind fun x6 =>
  letO (z5.set (Int.toNat s1.2.1) ({ x6 with Own := (Int.tmod (wi .i64 ((wi .i64 ((wi .i64 ((wi .i64 ((wi .i64 (s1.1 + 1)) + 1)) + 1)) + 1)) + 1)) 3) == 0 })) fun z6 =>
  some (LO.norm (wi .i64 ((wi .i64 ((wi .i64 ((wi .i64 ((wi .i64 ((wi .i64 (s1.1 + 1)) + 1)) + 1)) + 1)) + 1)) + 1), wi .i64 (s1.2.1 + 1), z6))
 else
  some (LO.exit 0 (s1.1, s1.2.1, s1.2.2))
def m125 (a0 : List TOp) (a1 : Int) : Option (Int × (List TOp)) :=
 (loopO (ms125_0) NN (a1, 0, a0)).bind (contO (fun _ => none) (fun i1 s2 =>
  if i1 = 0 then
   some (s2.1, s2.2.2)
  else
   none) (fun s2 =>
  some (0, s2.2.2)))
theorem w125 {d : Nat} (hd : 2 ≤ d) (L0 : List En) (i0_ : List Nat) (c0_0 : AV) (a0 : List TOp) (a1 : Int) : Okh (tr i0_ [c0_0] (a0 : List TOp) :: L0) (fun S => R NN d 125 [c0_0, .int .i64 a1] S) (m125 a0 a1) (P2 (fun (t : Int × (List TOp)) => AV.int .i64 t.1) (fun (t : Int × (List TOp)) => tr i0_ [c0_0] t.2 :: L0)) := by
  obtain ⟨d, rfl, g⟩ := up hd
  refine q_to (t125 NN d _ _) ?_
  unfold b125 m125
  refine q_loop (I := (fun (s : Int × Int × (List TOp)) l L => l = [.int .i64 s.1, .int .i64 s.2.1] ∧ L = tr i0_ [c0_0] (s.2.2 : List TOp) :: L0)) 0 ⟨rfl, rfl⟩ ?_ ?_ ?_
  ·rintro s1 _ _ ⟨rfl, rfl⟩
   unfold s125_0 ms125_0
   refine q_lent 0 rfl <| q_p fr <| q_if (fun h1 => ?_) (fun h1 => ?_)
   ·refine q_ixt 0 rfl rfl fun x1 hx1 => q_flt 0 rfl hx1 (by decide) <| q_stl 0 rfl rfl hx1 rfl (up157_Kind s1.1) fun z1 hz1 => q_p fr <| q_c0 (fun S hS => argF1 (cv_p rfl) hS fun l0_ => w70 (by omega) (wi .i64 (s1.1 + 1))) fun y1 hy1 => q_ixt 0 rfl rfl fun x2 hx2 => q_flt 0 rfl hx2 (by decide) <| q_stl 0 rfl rfl hx2 rfl (up157_Path y1) fun z2 hz2 => q_p fr <| q_ixt 0 rfl rfl fun x3 hx3 => q_flt 0 rfl hx3 (by decide) <| q_stl 0 rfl rfl hx3 rfl (up157_Data (wi .i64 ((wi .i64 (s1.1 + 1)) + 1))) fun z3 hz3 => q_p fr ?_
    refine q_ixt 0 rfl rfl fun x4 hx4 => q_flt 0 rfl hx4 (by decide) <| q_stl 0 rfl rfl hx4 rfl (up157_Version (wi .i64 ((wi .i64 ((wi .i64 (s1.1 + 1)) + 1)) + 1))) fun z4 hz4 => q_p fr <| q_p fr <| q_p fr <| q_ixt 0 rfl rfl fun x5 hx5 => q_flt 0 rfl hx5 (by decide) <| q_stl 0 rfl rfl hx5 rfl (up157_Seq ((Int.tmod (wi .i64 ((wi .i64 ((wi .i64 ((wi .i64 (s1.1 + 1)) + 1)) + 1)) + 1)) 3) == 0)) fun z5 hz5 => q_p fr <| q_p fr <| q_p fr <| q_ixt 0 rfl rfl fun x6 hx6 => ?_
    exact q_flt 0 rfl hx6 (by decide) <| q_stl 0 rfl rfl hx6 rfl (up157_Own ((Int.tmod (wi .i64 ((wi .i64 ((wi .i64 ((wi .i64 ((wi .i64 (s1.1 + 1)) + 1)) + 1)) + 1)) + 1)) 3) == 0)) fun z6 hz6 => q_p fr <| q_p fr <| q_norm 0 ⟨rfl, rfl⟩
   ·exact q_exit 0 ⟨rfl, rfl⟩
  ·rintro i1 s2 _ _ ⟨rfl, rfl⟩
   refine q_ite (fun _ => ?_) (fun _ => ?_)
   ·exact q_ret2 0 rfl rfl
   ·exact q_none
  ·rintro s2 _ _ ⟨rfl, rfl⟩
   exact q_ret2 0 rfl rfl
def ms104_0 (s1 : Int × Int × (List TRequest)) : Option (LO (Int × Int × (List TRequest))) :=
 bif decide (s1.2.1 < (s1.2.2.length : Int)) then
  (getI s1.2.2 s1.2.1).bind fun x1 =>
  letO (s1.2.2.set (Int.toNat s1.2.1) ({ x1 with Client := s1.1 })) fun z1 =>
  (getI z1 s1.2.1).bind fun x2 =>
  letO (z1.set (Int.toNat s1.2.1) ({ x2 with Number := wi .i64 (s1.1 + 1) })) fun z2 =>
  (getI z2 s1.2.1).bind fun x3 =>
  letO (z2.set (Int.toNat s1.2.1) ({ x3 with Time := wi .i64 ((wi .i64 (s1.1 + 1)) + 1) })) fun z3 =>
  (getI z3 s1.2.1).bind fun x4 =>
  (m125 x4.Ops (wi .i64 ((wi .i64 ((wi .i64 (s1.1 + 1)) + 1)) + 1))).bind fun y1 =>
  letO (z3.set (Int.toNat s1.2.1) ({ x4 with Ops := y1.2 })) fun z4 =>
  some (LO.norm (y1.1, wi .i64 (s1.2.1 + 1), z4))
 else
  some (LO.exit 0 (s1.1, s1.2.1, s1.2.2))
def m104 (a0 : List TRequest) (a1 : Int) : Option (Int × (List TRequest)) :=
 (loopO (ms104_0) NN (a1, 0, a0)).bind (contO (fun _ => none) (fun i1 s2 =>
  if i1 = 0 then
   some (s2.1, s2.2.2)
  else
   none) (fun s2 =>
  some (0, s2.2.2)))
theorem w104 {d : Nat} (hd : 3 ≤ d) (L0 : List En) (i0_ : List Nat) (c0_0 : AV) (a0 : List TRequest) (a1 : Int) : Okh (tr i0_ [c0_0] (a0 : List TRequest) :: L0) (fun S => R NN d 104 [c0_0, .int .i64 a1] S) (m104 a0 a1) (P2 (fun (t : Int × (List TRequest)) => AV.int .i64 t.1) (fun (t : Int × (List TRequest)) => tr i0_ [c0_0] t.2 :: L0)) := by
  obtain ⟨d, rfl, g⟩ := up hd
  refine q_to (t104 NN d _ _) ?_
  unfold b104 m104
  refine q_loop (I := (fun (s : Int × Int × (List TRequest)) l L => l = [.int .i64 s.1, .int .i64 s.2.1] ∧ L = tr i0_ [c0_0] (s.2.2 : List TRequest) :: L0)) 0 ⟨rfl, rfl⟩ ?_ ?_ ?_
  ·rintro s1 _ _ ⟨rfl, rfl⟩
   unfold s104_0 ms104_0
   refine q_lent 0 rfl <| q_p fr <| q_if (fun h1 => ?_) (fun h1 => ?_)
   ·refine q_ixt 0 rfl rfl fun x1 hx1 => q_flt 0 rfl hx1 (by decide) <| q_stl 0 rfl rfl hx1 rfl (up149_Client s1.1) fun z1 hz1 => q_p fr <| q_ixt 0 rfl rfl fun x2 hx2 => q_flt 0 rfl hx2 (by decide) <| q_stl 0 rfl rfl hx2 rfl (up149_Number (wi .i64 (s1.1 + 1))) fun z2 hz2 => q_p fr <| q_ixt 0 rfl rfl fun x3 hx3 => q_flt 0 rfl hx3 (by decide) <| q_stl 0 rfl rfl hx3 rfl (up149_Time (wi .i64 ((wi .i64 (s1.1 + 1)) + 1))) fun z3 hz3 => q_p fr <| q_ixt 0 rfl rfl fun x4 hx4 => ?_
    exact q_flt 0 rfl hx4 (by decide) <| q_ldf rfl rfl hx4 fo149_Ops fun w1 ic1 => q_s (mg := m125 x4.Ops (wi .i64 ((wi .i64 ((wi .i64 (s1.1 + 1)) + 1)) + 1))) (w125 (by omega) _ ic1 w1 x4.Ops (wi .i64 ((wi .i64 ((wi .i64 (s1.1 + 1)) + 1)) + 1))) fun y1 hy1 => q_putl fun z4 hz4 => q_p fr <| q_norm 0 ⟨rfl, rfl⟩
   ·exact q_exit 0 ⟨rfl, rfl⟩
  ·rintro i1 s2 _ _ ⟨rfl, rfl⟩
   refine q_ite (fun _ => ?_) (fun _ => ?_)
   ·exact q_ret2 0 rfl rfl
   ·exact q_none
  ·rintro s2 _ _ ⟨rfl, rfl⟩
   exact q_ret2 0 rfl rfl
def m61 (a0 : TCluster) (a1 : Int) : Option (Int × TCluster) :=
 (m24 a0.Bad a1).bind fun y1 =>
 letO ({ a0 with Bad := y1.2 }) fun z1 =>
 (m103 z1.Replicas y1.1).bind fun y2 =>
 letO ({ z1 with Replicas := y2.2 }) fun z2 =>
 (m15 z2.Ledger y2.1).bind fun y3 =>
 letO ({ z2 with Ledger := y3.2 }) fun z3 =>
 (m104 z3.Requests y3.1).bind fun y4 =>
 letO ({ z3 with Requests := y4.2 }) fun z4 =>
 some (y4.1, z4)
theorem w61 {d : Nat} (hd : 4 ≤ d) (L0 : List En) (i0_ : List Nat) (c0_0 c0_1 c0_2 c0_3 c0_4 : AV) (a0 : TCluster) (a1 : Int) : Okh (tr i0_ [c0_0, c0_1, c0_2, c0_3, c0_4] (a0 : TCluster) :: L0) (fun S => R NN d 61 [.agg [c0_0, c0_1, c0_2, c0_3, c0_4], .int .i64 a1] S) (m61 a0 a1) (P2 (fun (t : Int × TCluster) => AV.int .i64 t.1) (fun (t : Int × TCluster) => tr i0_ [c0_0, c0_1, c0_2, c0_3, c0_4] t.2 :: L0)) := by
  obtain ⟨d, rfl, g⟩ := up hd
  refine q_to (t61 NN d _ _) ?_
  unfold b61 m61
  refine q_box (n := 5) rfl rfl (by decide) fun b1 => q_p fr <| q_ld 0 rfl rfl <| q_sel 2 [1, 0] (by decide) (by decide) <| q_prt fo48_Bad rfl fun ic1 => q_s (mg := m24 a0.Bad a1) (w24 (by omega) _ ic1 c0_1 a0.Bad a1) fun y1 hy1 => q_putl fun z1 hz1 => q_p fr <| q_ld 1 rfl rfl <| q_prt fo48_Replicas rfl fun ic2 => q_s (mg := m103 z1.Replicas y1.1) (w103 (by omega) _ ic2 c0_2 z1.Replicas y1.1) fun y2 hy2 => q_putl fun z2 hz2 => q_p fr ?_
  exact q_ld 1 rfl rfl <| q_prt fo48_Ledger rfl fun ic3 => q_s (mg := m15 z2.Ledger y2.1) (w15 (by omega) _ ic3 c0_3 z2.Ledger y2.1) fun y3 hy3 => q_putl fun z3 hz3 => q_p fr <| q_ld 1 rfl rfl <| q_prt fo48_Requests rfl fun ic4 => q_s (mg := m104 z3.Requests y3.1) (w104 (by omega) _ ic4 c0_4 z3.Requests y3.1) fun y4 hy4 => q_putl fun z4 hz4 => q_sel 2 [1, 0] (by decide) (by decide) <| q_ret2 1 rfl rfl
def m25 (a0 : TClusterResult) (a1 : Int) : Option (Int × TClusterResult) :=
 (m61 a0.Cluster a1).bind fun y1 =>
 letO ({ a0 with Cluster := y1.2 }) fun z1 =>
 some (y1.1, z1)
theorem w25 {d : Nat} (hd : 5 ≤ d) (L0 : List En) (i0_ : List Nat) (c0_0 c0_1 c0_2 c0_3 c0_4 c0_5 : AV) (a0 : TClusterResult) (a1 : Int) : Okh (tr i0_ [c0_0, c0_1, c0_2, c0_3, c0_4, c0_5] (a0 : TClusterResult) :: L0) (fun S => R NN d 25 [.agg [c0_0, c0_1, c0_2, c0_3, c0_4, c0_5], .int .i64 a1] S) (m25 a0 a1) (P2 (fun (t : Int × TClusterResult) => AV.int .i64 t.1) (fun (t : Int × TClusterResult) => tr i0_ [c0_0, c0_1, c0_2, c0_3, c0_4, c0_5] t.2 :: L0)) := by
  obtain ⟨d, rfl, g⟩ := up hd
  refine q_to (t25 NN d _ _) ?_
  unfold b25 m25
  exact q_box (n := 6) rfl rfl (by decide) fun b1 => q_p fr <| q_lda 0 rfl rfl rfl <| q_sel 2 [1, 0] (by decide) (by decide) <| q_prt fo50_Cluster rfl fun ic1 => q_s (mg := m61 a0.Cluster a1) (w61 (by omega) _ ic1 c0_1 c0_2 c0_3 c0_4 c0_5 a0.Cluster a1) fun y1 hy1 => q_putl fun z1 hz1 => q_sel 2 [1, 0] (by decide) (by decide) <| q_ret2 1 rfl rfl
def ms71_0 (a0 : List Int) (s1 : Int × Int × Int) : Option (LO (Int × Int × Int)) :=
 bif decide (s1.2.2 < (a0.length : Int)) then
  (getI a0 s1.2.2).bind fun x1 =>
  bif x1 != s1.1 then
   some (LO.ret (s1.1, (-1), s1.2.2))
  else
   some (LO.norm (wi .i64 (s1.1 + 1), s1.2.1, wi .i64 (s1.2.2 + 1)))
 else
  some (LO.exit 0 (s1.1, s1.2.1, s1.2.2))
def m71 (a0 : List Int) (a1 : Int) : Option (Int) :=
 (loopO (ms71_0 a0) NN (a1, 0, 0)).bind (contO (fun _ => none) (fun i1 s2 =>
  if i1 = 0 then
   some s2.1
  else
   none) (fun s2 =>
  some s2.2.1))
theorem w71 {d : Nat} (hd : 1 ≤ d) (k0 : Bool) (a0 : List Int) (a1 : Int) : Fit (R NN d 71 [.rsl k0 false (a0.map (Enc.cs k0)), .int .i64 a1] []) (m71 a0 a1) (P0 (fun (t : Int) => AV.int .i64 t)) := by
  obtain ⟨d, rfl, g⟩ := up hd
  refine q_in (t71 NN d _ _) ?_
  unfold b71 m71
  refine q_loop (I := (fun (s : Int × Int × Int) l L => l = [.int .i64 s.1, .int .i64 s.2.1, .int .i64 s.2.2] ∧ L = [])) 0 ⟨rfl, rfl⟩ ?_ ?_ ?_
  ·rintro s1 _ _ ⟨rfl, rfl⟩
   unfold s71_0 ms71_0
   refine q_len <| q_p fr <| q_if (fun h2 => ?_) (fun h2 => ?_)
   ·refine q_ix rfl fun x1 hx1 => q_p fr <| q_p fr <| q_if (fun h1 => ?_) (fun h1 => ?_)
    ·exact q_lret 0 ⟨rfl, rfl⟩
    ·exact q_p fr <| q_p fr <| q_norm 0 ⟨rfl, rfl⟩
   ·exact q_exit 0 ⟨rfl, rfl⟩
  ·rintro i1 s2 _ _ ⟨rfl, rfl⟩
   refine q_ite (fun _ => ?_) (fun _ => ?_)
   ·exact q_ret (cv_p rfl) rfl
   ·exact q_none
  ·rintro s2 _ _ ⟨rfl, rfl⟩
   exact q_ret (cv_p rfl) rfl
def ms97_0 (a0 : List TCert) (s1 : Int × Int × Int) : Option (LO (Int × Int × Int)) :=
 bif decide (s1.2.2 < (a0.length : Int)) then
  (getI a0 s1.2.2).bind fun x1 =>
  bif x1.Slot != s1.1 then
   some (LO.ret (s1.1, (-1), s1.2.2))
  else
   (getI a0 s1.2.2).bind fun x2 =>
   bif x2.View != (wi .i64 (s1.1 + 1)) then
    some (LO.ret (wi .i64 (s1.1 + 1), (-1), s1.2.2))
   else
    (getI a0 s1.2.2).bind fun x3 =>
    bif x3.Value != (wi .i64 ((wi .i64 (s1.1 + 1)) + 1)) then
     some (LO.ret (wi .i64 ((wi .i64 (s1.1 + 1)) + 1), (-1), s1.2.2))
    else
     some (LO.norm (wi .i64 ((wi .i64 ((wi .i64 (s1.1 + 1)) + 1)) + 1), s1.2.1, wi .i64 (s1.2.2 + 1)))
 else
  some (LO.exit 0 (s1.1, s1.2.1, s1.2.2))
def m97 (a0 : List TCert) (a1 : Int) : Option (Int) :=
 (loopO (ms97_0 a0) NN (a1, 0, 0)).bind (contO (fun _ => none) (fun i1 s2 =>
  if i1 = 0 then
   some s2.1
  else
   none) (fun s2 =>
  some s2.2.1))
theorem w97 {d : Nat} (hd : 1 ≤ d) (k0 : Bool) (a0 : List TCert) (a1 : Int) : Fit (R NN d 97 [.rsl k0 false (a0.map (Enc.cs k0)), .int .i64 a1] []) (m97 a0 a1) (P0 (fun (t : Int) => AV.int .i64 t)) := by
  obtain ⟨d, rfl, g⟩ := up hd
  refine q_in (t97 NN d _ _) ?_
  unfold b97 m97
  refine q_loop (I := (fun (s : Int × Int × Int) l L => l = [.int .i64 s.1, .int .i64 s.2.1, .int .i64 s.2.2] ∧ L = [])) 0 ⟨rfl, rfl⟩ ?_ ?_ ?_
  ·rintro s1 _ _ ⟨rfl, rfl⟩
   unfold s97_0 ms97_0
   refine q_len <| q_p fr <| q_if (fun h4 => ?_) (fun h4 => ?_)
   ·refine q_ix rfl fun x1 hx1 => q_p fr <| q_p fr <| q_p fr <| q_if (fun h3 => ?_) (fun h3 => ?_)
    ·exact q_lret 0 ⟨rfl, rfl⟩
    ·refine q_p fr <| q_ix rfl fun x2 hx2 => q_p fr <| q_p fr <| q_p fr <| q_if (fun h2 => ?_) (fun h2 => ?_)
     ·exact q_lret 0 ⟨rfl, rfl⟩
     ·refine q_p fr <| q_ix rfl fun x3 hx3 => q_p fr <| q_p fr <| q_p fr <| q_if (fun h1 => ?_) (fun h1 => ?_)
      ·exact q_lret 0 ⟨rfl, rfl⟩
      ·exact q_p fr <| q_p fr <| q_norm 0 ⟨rfl, rfl⟩
   ·exact q_exit 0 ⟨rfl, rfl⟩
  ·rintro i1 s2 _ _ ⟨rfl, rfl⟩
   refine q_ite (fun _ => ?_) (fun _ => ?_)
   ·exact q_ret (cv_p rfl) rfl
   ·exact q_none
  ·rintro s2 _ _ ⟨rfl, rfl⟩
   exact q_ret (cv_p rfl) rfl
def ms51_0 (a0 : List TMsg) (s1 : Int × Int × Int) : Option (LO (Int × Int × Int)) :=
 bif decide (s1.2.2 < (a0.length : Int)) then
  (getI a0 s1.2.2).bind fun x1 =>
  bif x1.Kind != s1.1 then
   some (LO.ret (s1.1, (-1), s1.2.2))
  else
   (getI a0 s1.2.2).bind fun x2 =>
   bif x2.View != (wi .i64 (s1.1 + 1)) then
    some (LO.ret (wi .i64 (s1.1 + 1), (-1), s1.2.2))
   else
    (getI a0 s1.2.2).bind fun x3 =>
    bif x3.From != (wi .i64 ((wi .i64 (s1.1 + 1)) + 1)) then
     some (LO.ret (wi .i64 ((wi .i64 (s1.1 + 1)) + 1), (-1), s1.2.2))
    else
     (getI a0 s1.2.2).bind fun x4 =>
     bif x4.Slot != (wi .i64 ((wi .i64 ((wi .i64 (s1.1 + 1)) + 1)) + 1)) then
      some (LO.ret (wi .i64 ((wi .i64 ((wi .i64 (s1.1 + 1)) + 1)) + 1), (-1), s1.2.2))
     else
      (getI a0 s1.2.2).bind fun x5 =>
      bif x5.Value != (wi .i64 ((wi .i64 ((wi .i64 ((wi .i64 (s1.1 + 1)) + 1)) + 1)) + 1)) then
       some (LO.ret (wi .i64 ((wi .i64 ((wi .i64 ((wi .i64 (s1.1 + 1)) + 1)) + 1)) + 1), (-1), s1.2.2))
      else
       (getI a0 s1.2.2).bind fun x6 =>
       (m97 x6.Certs (wi .i64 ((wi .i64 ((wi .i64 ((wi .i64 ((wi .i64 (s1.1 + 1)) + 1)) + 1)) + 1)) + 1))).bind fun y1 =>
       bif decide (y1 < 0) then
        some (LO.ret (y1, (-1), s1.2.2))
       else
        (getI a0 s1.2.2).bind fun x7 =>
        (m71 x7.Refs y1).bind fun y2 =>
        bif decide (y2 < 0) then
         some (LO.ret (y2, (-1), s1.2.2))
        else
         some (LO.norm (y2, s1.2.1, wi .i64 (s1.2.2 + 1)))
 else
  some (LO.exit 0 (s1.1, s1.2.1, s1.2.2))
def m51 (a0 : List TMsg) (a1 : Int) : Option (Int) :=
 (loopO (ms51_0 a0) NN (a1, 0, 0)).bind (contO (fun _ => none) (fun i1 s2 =>
  if i1 = 0 then
   some s2.1
  else
   none) (fun s2 =>
  some s2.2.1))
theorem w51 {d : Nat} (hd : 2 ≤ d) (k0 : Bool) (a0 : List TMsg) (a1 : Int) : Fit (R NN d 51 [.rsl k0 false (a0.map (Enc.cs k0)), .int .i64 a1] []) (m51 a0 a1) (P0 (fun (t : Int) => AV.int .i64 t)) := by
  obtain ⟨d, rfl, g⟩ := up hd
  refine q_in (t51 NN d _ _) ?_
  unfold b51 m51
  refine q_loop (I := (fun (s : Int × Int × Int) l L => l = [.int .i64 s.1, .int .i64 s.2.1, .int .i64 s.2.2] ∧ L = [])) 0 ⟨rfl, rfl⟩ ?_ ?_ ?_
  ·rintro s1 _ _ ⟨rfl, rfl⟩
   unfold s51_0 ms51_0
   refine q_len <| q_p fr <| q_if (fun h8 => ?_) (fun h8 => ?_)
   ·refine q_ix rfl fun x1 hx1 => q_p fr <| q_p fr <| q_p fr <| q_if (fun h7 => ?_) (fun h7 => ?_)
    ·exact q_lret 0 ⟨rfl, rfl⟩
    ·refine q_p fr <| q_ix rfl fun x2 hx2 => q_p fr <| q_p fr <| q_p fr <| q_if (fun h6 => ?_) (fun h6 => ?_)
     ·exact q_lret 0 ⟨rfl, rfl⟩
     ·refine q_p fr <| q_ix rfl fun x3 hx3 => q_p fr <| q_p fr <| q_p fr <| q_if (fun h5 => ?_) (fun h5 => ?_)
      ·exact q_lret 0 ⟨rfl, rfl⟩
      ·refine q_p fr <| q_ix rfl fun x4 hx4 => q_p fr <| q_p fr <| q_p fr <| q_if (fun h4 => ?_) (fun h4 => ?_)
       ·exact q_lret 0 ⟨rfl, rfl⟩
       ·refine q_p fr <| q_ix rfl fun x5 hx5 => q_p fr <| q_p fr <| q_p fr <| q_if (fun h3 => ?_) (fun h3 => ?_)
        ·exact q_lret 0 ⟨rfl, rfl⟩
        ·refine q_p fr <| q_ix rfl fun x6 hx6 => q_p fr <| q_p fr <| q_c0 (fun S hS => argF2 cv_r (cv_p rfl) hS fun l0_ l1_ => w97 (by omega) l0_ x6.Certs (wi .i64 ((wi .i64 ((wi .i64 ((wi .i64 ((wi .i64 (s1.1 + 1)) + 1)) + 1)) + 1)) + 1))) fun y1 hy1 => q_p fr <| q_if (fun h2 => ?_) (fun h2 => ?_)
         ·exact q_lret 0 ⟨rfl, rfl⟩
         ·refine q_ix rfl fun x7 hx7 => q_p fr <| q_p fr <| q_c0 (fun S hS => argF2 cv_r (cv_p rfl) hS fun l0_ l1_ => w71 (by omega) l0_ x7.Refs y1) fun y2 hy2 => q_p fr <| q_if (fun h1 => ?_) (fun h1 => ?_)
          ·exact q_lret 0 ⟨rfl, rfl⟩
          ·exact q_p fr <| q_norm 0 ⟨rfl, rfl⟩
   ·exact q_exit 0 ⟨rfl, rfl⟩
  ·rintro i1 s2 _ _ ⟨rfl, rfl⟩
   refine q_ite (fun _ => ?_) (fun _ => ?_)
   ·exact q_ret (cv_p rfl) rfl
   ·exact q_none
  ·rintro s2 _ _ ⟨rfl, rfl⟩
   exact q_ret (cv_p rfl) rfl
def ms105_0 (a0 : List TReplica) (s1 : Int × Int × Int) : Option (LO (Int × Int × Int)) :=
 bif decide (s1.2.2 < (a0.length : Int)) then
  (getI a0 s1.2.2).bind fun x1 =>
  bif x1.Id != s1.1 then
   some (LO.ret (s1.1, (-1), s1.2.2))
  else
   (getI a0 s1.2.2).bind fun x2 =>
   bif x2.View != (wi .i64 (s1.1 + 1)) then
    some (LO.ret (wi .i64 (s1.1 + 1), (-1), s1.2.2))
   else
    (getI a0 s1.2.2).bind fun x3 =>
    bif x3.Start != (wi .i64 ((wi .i64 (s1.1 + 1)) + 1)) then
     some (LO.ret (wi .i64 ((wi .i64 (s1.1 + 1)) + 1), (-1), s1.2.2))
    else
     (getI a0 s1.2.2).bind fun x4 =>
     bif x4.Done != (wi .i64 ((wi .i64 ((wi .i64 (s1.1 + 1)) + 1)) + 1)) then
      some (LO.ret (wi .i64 ((wi .i64 ((wi .i64 (s1.1 + 1)) + 1)) + 1), (-1), s1.2.2))
     else
      some (LO.norm (wi .i64 ((wi .i64 ((wi .i64 ((wi .i64 (s1.1 + 1)) + 1)) + 1)) + 1), s1.2.1, wi .i64 (s1.2.2 + 1)))
 else
  some (LO.exit 0 (s1.1, s1.2.1, s1.2.2))
def m105 (a0 : List TReplica) (a1 : Int) : Option (Int) :=
 (loopO (ms105_0 a0) NN (a1, 0, 0)).bind (contO (fun _ => none) (fun i1 s2 =>
  if i1 = 0 then
   some s2.1
  else
   none) (fun s2 =>
  some s2.2.1))
theorem w105 {d : Nat} (hd : 1 ≤ d) (k0 : Bool) (a0 : List TReplica) (a1 : Int) : Fit (R NN d 105 [.rsl k0 false (a0.map (Enc.cs k0)), .int .i64 a1] []) (m105 a0 a1) (P0 (fun (t : Int) => AV.int .i64 t)) := by
  obtain ⟨d, rfl, g⟩ := up hd
  refine q_in (t105 NN d _ _) ?_
  unfold b105 m105
  refine q_loop (I := (fun (s : Int × Int × Int) l L => l = [.int .i64 s.1, .int .i64 s.2.1, .int .i64 s.2.2] ∧ L = [])) 0 ⟨rfl, rfl⟩ ?_ ?_ ?_
  ·rintro s1 _ _ ⟨rfl, rfl⟩
   unfold s105_0 ms105_0
   refine q_len <| q_p fr <| q_if (fun h5 => ?_) (fun h5 => ?_)
   ·refine q_ix rfl fun x1 hx1 => q_p fr <| q_p fr <| q_p fr <| q_if (fun h4 => ?_) (fun h4 => ?_)
    ·exact q_lret 0 ⟨rfl, rfl⟩
    ·refine q_p fr <| q_ix rfl fun x2 hx2 => q_p fr <| q_p fr <| q_p fr <| q_if (fun h3 => ?_) (fun h3 => ?_)
     ·exact q_lret 0 ⟨rfl, rfl⟩
     ·refine q_p fr <| q_ix rfl fun x3 hx3 => q_p fr <| q_p fr <| q_p fr <| q_if (fun h2 => ?_) (fun h2 => ?_)
      ·exact q_lret 0 ⟨rfl, rfl⟩
      ·refine q_p fr <| q_ix rfl fun x4 hx4 => q_p fr <| q_p fr <| q_p fr <| q_if (fun h1 => ?_) (fun h1 => ?_)
       ·exact q_lret 0 ⟨rfl, rfl⟩
       ·exact q_p fr <| q_p fr <| q_norm 0 ⟨rfl, rfl⟩
   ·exact q_exit 0 ⟨rfl, rfl⟩
  ·rintro i1 s2 _ _ ⟨rfl, rfl⟩
   refine q_ite (fun _ => ?_) (fun _ => ?_)
   ·exact q_ret (cv_p rfl) rfl
   ·exact q_none
  ·rintro s2 _ _ ⟨rfl, rfl⟩
   exact q_ret (cv_p rfl) rfl
def ms126_0 (a0 : List TOp) (s1 : Int × Int × Int) : Option (LO (Int × Int × Int)) :=
 bif decide (s1.2.2 < (a0.length : Int)) then
  (getI a0 s1.2.2).bind fun x1 =>
  bif x1.Kind != s1.1 then
   some (LO.ret (s1.1, (-1), s1.2.2))
  else
   (getI a0 s1.2.2).bind fun x2 =>
   (m70 (wi .i64 (s1.1 + 1))).bind fun y1 =>
   bif !(x2.Path == y1) then
    some (LO.ret (wi .i64 (s1.1 + 1), (-1), s1.2.2))
   else
    (getI a0 s1.2.2).bind fun x3 =>
    bif x3.Data != (wi .i64 ((wi .i64 (s1.1 + 1)) + 1)) then
     some (LO.ret (wi .i64 ((wi .i64 (s1.1 + 1)) + 1), (-1), s1.2.2))
    else
     (getI a0 s1.2.2).bind fun x4 =>
     bif x4.Version != (wi .i64 ((wi .i64 ((wi .i64 (s1.1 + 1)) + 1)) + 1)) then
      some (LO.ret (wi .i64 ((wi .i64 ((wi .i64 (s1.1 + 1)) + 1)) + 1), (-1), s1.2.2))
     else
      (getI a0 s1.2.2).bind fun x5 =>
      bif x5.Seq != ((Int.tmod (wi .i64 ((wi .i64 ((wi .i64 ((wi .i64 (s1.1 + 1)) + 1)) + 1)) + 1)) 3) == 0) then
       some (LO.ret (wi .i64 ((wi .i64 ((wi .i64 ((wi .i64 (s1.1 + 1)) + 1)) + 1)) + 1), (-1), s1.2.2))
      else
       (getI a0 s1.2.2).bind fun x6 =>
       bif x6.Own != ((Int.tmod (wi .i64 ((wi .i64 ((wi .i64 ((wi .i64 ((wi .i64 (s1.1 + 1)) + 1)) + 1)) + 1)) + 1)) 3) == 0) then
        some (LO.ret (wi .i64 ((wi .i64 ((wi .i64 ((wi .i64 ((wi .i64 (s1.1 + 1)) + 1)) + 1)) + 1)) + 1), (-1), s1.2.2))
       else
        some (LO.norm (wi .i64 ((wi .i64 ((wi .i64 ((wi .i64 ((wi .i64 ((wi .i64 (s1.1 + 1)) + 1)) + 1)) + 1)) + 1)) + 1), s1.2.1, wi .i64 (s1.2.2 + 1)))
 else
  some (LO.exit 0 (s1.1, s1.2.1, s1.2.2))
def m126 (a0 : List TOp) (a1 : Int) : Option (Int) :=
 (loopO (ms126_0 a0) NN (a1, 0, 0)).bind (contO (fun _ => none) (fun i1 s2 =>
  if i1 = 0 then
   some s2.1
  else
   none) (fun s2 =>
  some s2.2.1))
theorem w126 {d : Nat} (hd : 2 ≤ d) (k0 : Bool) (a0 : List TOp) (a1 : Int) : Fit (R NN d 126 [.rsl k0 false (a0.map (Enc.cs k0)), .int .i64 a1] []) (m126 a0 a1) (P0 (fun (t : Int) => AV.int .i64 t)) := by
  obtain ⟨d, rfl, g⟩ := up hd
  refine q_in (t126 NN d _ _) ?_
  unfold b126 m126
  refine q_loop (I := (fun (s : Int × Int × Int) l L => l = [.int .i64 s.1, .int .i64 s.2.1, .int .i64 s.2.2] ∧ L = [])) 0 ⟨rfl, rfl⟩ ?_ ?_ ?_
  ·rintro s1 _ _ ⟨rfl, rfl⟩
   unfold s126_0 ms126_0
   refine q_len <| q_p fr <| q_if (fun h7 => ?_) (fun h7 => ?_)
   ·refine q_ix rfl fun x1 hx1 => q_p fr <| q_p fr <| q_p fr <| q_if (fun h6 => ?_) (fun h6 => ?_)
    ·exact q_lret 0 ⟨rfl, rfl⟩
    ·refine q_p fr <| q_ix rfl fun x2 hx2 => q_p fr <| q_p fr <| q_c0 (fun S hS => argF1 (cv_p rfl) hS fun l0_ => w70 (by omega) (wi .i64 (s1.1 + 1))) fun y1 hy1 => q_p (fun _ => seq_neq2) <| q_if (fun h5 => ?_) (fun h5 => ?_)
     ·exact q_lret 0 ⟨rfl, rfl⟩
     ·refine q_p fr <| q_ix rfl fun x3 hx3 => q_p fr <| q_p fr <| q_p fr <| q_if (fun h4 => ?_) (fun h4 => ?_)
      ·exact q_lret 0 ⟨rfl, rfl⟩
      ·refine q_p fr <| q_ix rfl fun x4 hx4 => q_p fr <| q_p fr <| q_p fr <| q_if (fun h3 => ?_) (fun h3 => ?_)
       ·exact q_lret 0 ⟨rfl, rfl⟩
       ·refine q_p fr <| q_ix rfl fun x5 hx5 => q_p fr <| q_p fr <| q_p fr <| q_p fr <| q_p (fun _ => bneq42 _ _) <| q_if (fun h2 => ?_) (fun h2 => ?_)
        ·exact q_lret 0 ⟨rfl, rfl⟩
        ·refine q_p fr <| q_ix rfl fun x6 hx6 => q_p fr <| q_p fr <| q_p fr <| q_p fr <| q_p (fun _ => bneq42 _ _) <| q_if (fun h1 => ?_) (fun h1 => ?_)
         ·exact q_lret 0 ⟨rfl, rfl⟩
         ·exact q_p fr <| q_p fr <| q_norm 0 ⟨rfl, rfl⟩
   ·exact q_exit 0 ⟨rfl, rfl⟩
  ·rintro i1 s2 _ _ ⟨rfl, rfl⟩
   refine q_ite (fun _ => ?_) (fun _ => ?_)
   ·exact q_ret (cv_p rfl) rfl
   ·exact q_none
  ·rintro s2 _ _ ⟨rfl, rfl⟩
   exact q_ret (cv_p rfl) rfl
def ms106_0 (a0 : List TRequest) (s1 : Int × Int × Int) : Option (LO (Int × Int × Int)) :=
 bif decide (s1.2.2 < (a0.length : Int)) then
  (getI a0 s1.2.2).bind fun x1 =>
  bif x1.Client != s1.1 then
   some (LO.ret (s1.1, (-1), s1.2.2))
  else
   (getI a0 s1.2.2).bind fun x2 =>
   bif x2.Number != (wi .i64 (s1.1 + 1)) then
    some (LO.ret (wi .i64 (s1.1 + 1), (-1), s1.2.2))
   else
    (getI a0 s1.2.2).bind fun x3 =>
    bif x3.Time != (wi .i64 ((wi .i64 (s1.1 + 1)) + 1)) then
     some (LO.ret (wi .i64 ((wi .i64 (s1.1 + 1)) + 1), (-1), s1.2.2))
    else
     (getI a0 s1.2.2).bind fun x4 =>
     (m126 x4.Ops (wi .i64 ((wi .i64 ((wi .i64 (s1.1 + 1)) + 1)) + 1))).bind fun y1 =>
     bif decide (y1 < 0) then
      some (LO.ret (y1, (-1), s1.2.2))
     else
      some (LO.norm (y1, s1.2.1, wi .i64 (s1.2.2 + 1)))
 else
  some (LO.exit 0 (s1.1, s1.2.1, s1.2.2))
def m106 (a0 : List TRequest) (a1 : Int) : Option (Int) :=
 (loopO (ms106_0 a0) NN (a1, 0, 0)).bind (contO (fun _ => none) (fun i1 s2 =>
  if i1 = 0 then
   some s2.1
  else
   none) (fun s2 =>
  some s2.2.1))
theorem w106 {d : Nat} (hd : 3 ≤ d) (k0 : Bool) (a0 : List TRequest) (a1 : Int) : Fit (R NN d 106 [.rsl k0 false (a0.map (Enc.cs k0)), .int .i64 a1] []) (m106 a0 a1) (P0 (fun (t : Int) => AV.int .i64 t)) := by
  obtain ⟨d, rfl, g⟩ := up hd
  refine q_in (t106 NN d _ _) ?_
  unfold b106 m106
  refine q_loop (I := (fun (s : Int × Int × Int) l L => l = [.int .i64 s.1, .int .i64 s.2.1, .int .i64 s.2.2] ∧ L = [])) 0 ⟨rfl, rfl⟩ ?_ ?_ ?_
  ·rintro s1 _ _ ⟨rfl, rfl⟩
   unfold s106_0 ms106_0
   refine q_len <| q_p fr <| q_if (fun h5 => ?_) (fun h5 => ?_)
   ·refine q_ix rfl fun x1 hx1 => q_p fr <| q_p fr <| q_p fr <| q_if (fun h4 => ?_) (fun h4 => ?_)
    ·exact q_lret 0 ⟨rfl, rfl⟩
    ·refine q_p fr <| q_ix rfl fun x2 hx2 => q_p fr <| q_p fr <| q_p fr <| q_if (fun h3 => ?_) (fun h3 => ?_)
     ·exact q_lret 0 ⟨rfl, rfl⟩
     ·refine q_p fr <| q_ix rfl fun x3 hx3 => q_p fr <| q_p fr <| q_p fr <| q_if (fun h2 => ?_) (fun h2 => ?_)
      ·exact q_lret 0 ⟨rfl, rfl⟩
      ·refine q_p fr <| q_ix rfl fun x4 hx4 => q_p fr <| q_p fr <| q_c0 (fun S hS => argF2 cv_r (cv_p rfl) hS fun l0_ l1_ => w126 (by omega) l0_ x4.Ops (wi .i64 ((wi .i64 ((wi .i64 (s1.1 + 1)) + 1)) + 1))) fun y1 hy1 => q_p fr <| q_if (fun h1 => ?_) (fun h1 => ?_)
       ·exact q_lret 0 ⟨rfl, rfl⟩
       ·exact q_p fr <| q_norm 0 ⟨rfl, rfl⟩
   ·exact q_exit 0 ⟨rfl, rfl⟩
  ·rintro i1 s2 _ _ ⟨rfl, rfl⟩
   refine q_ite (fun _ => ?_) (fun _ => ?_)
   ·exact q_ret (cv_p rfl) rfl
   ·exact q_none
  ·rintro s2 _ _ ⟨rfl, rfl⟩
   exact q_ret (cv_p rfl) rfl
def m62 (a0 : TCluster) (a1 : Int) : Option (Int) :=
 (m71 a0.Bad a1).bind fun y1 =>
 bif decide (y1 < 0) then
  some (-1)
 else
  (m105 a0.Replicas y1).bind fun y2 =>
  bif decide (y2 < 0) then
   some (-1)
  else
   (m51 a0.Ledger y2).bind fun y3 =>
   bif decide (y3 < 0) then
    some (-1)
   else
    (m106 a0.Requests y3).bind fun y4 =>
    bif decide (y4 < 0) then
     some (-1)
    else
     some y4
theorem w62 {d : Nat} (hd : 4 ≤ d) (k0 : Bool) (a0 : TCluster) (a1 : Int) : Fit (R NN d 62 [.agg (Enc.cs k0 a0), .int .i64 a1] []) (m62 a0 a1) (P0 (fun (t : Int) => AV.int .i64 t)) := by
  obtain ⟨d, rfl, g⟩ := up hd
  refine q_in (t62 NN d _ _) ?_
  unfold b62 m62
  refine q_box (n := 5) rfl rfl (by decide) fun b1 => q_p fr <| q_ld 0 rfl rfl <| q_c0 (fun S hS => argF2 cv_r (cv_p rfl) hS fun l0_ l1_ => w71 (by omega) l0_ a0.Bad a1) fun y1 hy1 => q_p fr <| q_if (fun h4 => ?_) (fun h4 => ?_)
  ·exact q_ret (cv_p rfl) rfl
  ·refine q_p fr <| q_ld 0 rfl rfl <| q_c0 (fun S hS => argF2 cv_r (cv_p rfl) hS fun l0_ l1_ => w105 (by omega) l0_ a0.Replicas y1) fun y2 hy2 => q_p fr <| q_if (fun h3 => ?_) (fun h3 => ?_)
   ·exact q_ret (cv_p rfl) rfl
   ·refine q_p fr <| q_ld 0 rfl rfl <| q_c0 (fun S hS => argF2 cv_r (cv_p rfl) hS fun l0_ l1_ => w51 (by omega) l0_ a0.Ledger y2) fun y3 hy3 => q_p fr <| q_if (fun h2 => ?_) (fun h2 => ?_)
    ·exact q_ret (cv_p rfl) rfl
    ·refine q_p fr <| q_ld 0 rfl rfl <| q_c0 (fun S hS => argF2 cv_r (cv_p rfl) hS fun l0_ l1_ => w106 (by omega) l0_ a0.Requests y3) fun y4 hy4 => q_p fr <| q_if (fun h1 => ?_) (fun h1 => ?_)
     ·exact q_ret (cv_p rfl) rfl
     ·exact q_ret (cv_p rfl) rfl
def m26 (a0 : TClusterResult) (a1 : Int) : Option (Int) :=
 (m62 a0.Cluster a1).bind fun y1 =>
 bif decide (y1 < 0) then
  some (-1)
 else
  some y1
theorem w26 {d : Nat} (hd : 5 ≤ d) (k0 : Bool) (a0 : TClusterResult) (a1 : Int) : Fit (R NN d 26 [.agg (Enc.cs k0 a0), .int .i64 a1] []) (m26 a0 a1) (P0 (fun (t : Int) => AV.int .i64 t)) := by
  obtain ⟨d, rfl, g⟩ := up hd
  refine q_in (t26 NN d _ _) ?_
  unfold b26 m26
  refine q_box (n := 6) rfl rfl (by decide) fun b1 => q_p fr <| q_lda 0 rfl rfl rfl <| q_c0 (fun S hS => argF2 (cv_a (cvs_e (l0 := k0) (x := a0.Cluster))) (cv_p rfl) hS fun l0_ l1_ => w62 (by omega) l0_ a0.Cluster a1) fun y1 hy1 => q_p fr <| q_if (fun h1 => ?_) (fun h1 => ?_)
  ·exact q_ret (cv_p rfl) rfl
  ·exact q_ret (cv_p rfl) rfl
def m4 (a0 : Int) (a1 : List Int) : Option (Bool) :=
 bif decide ((a1.length : Int) > 1048576) then
  some true
 else
  (m20 a1).bind fun y1 =>
  (m19 a0 y1).bind fun y2 =>
  (m20 a1).bind fun y3 =>
  (m21 a0 y3).bind fun y4 =>
  (m22 y4 y2).bind fun y5 =>
  bif !y5 then
   some false
  else
   (m20 a1).bind fun y6 =>
   (m23 y3 y6).bind fun y7 =>
   bif !y7 then
    some false
   else
    (m24 y3 1).bind fun y8 =>
    (
     bif decide (y8.1 < 0) then
      some (LO.ret false)
     else
      (m22 y4 y2).bind fun y9 =>
      bif !y9 then
       some (LO.ret false)
      else
       some (LO.norm false)).bind (contO (fun s2 =>
     (m25 y4 1).bind fun y10 =>
     (m26 y10.2 1).bind fun y11 =>
     bif decide (y11 < 0) then
      some false
     else
      bif y11 != y10.1 then
       some false
      else
       (m20 a1).bind fun y12 =>
       (m21 a0 y12).bind fun y13 =>
       (m22 y13 y2).bind fun y14 =>
       bif !y14 then
        some false
       else
        (m26 y10.2 1).bind fun y15 =>
        bif decide (y15 < 0) then
         some false
        else
         bif y15 != y10.1 then
          some false
         else
          some true) (fun i5 s2 =>
     none) (fun s2 =>
     some s2))
theorem w4 {d : Nat} (hd : 7 ≤ d) (a0 : Int) (k1 : Bool) (a1 : List Int) : Fit (R NN d 4 [.int .i64 a0, .rsl k1 false (a1.map (Enc.cs k1))] []) (m4 a0 a1) (P0 (fun (t : Bool) => AV.bool t)) := by
  obtain ⟨d, rfl, g⟩ := up hd
  refine q_in (t4 NN d _ _) ?_
  unfold b4 m4
  refine q_len <| q_p fr <| q_if (fun h10 => ?_) (fun h10 => ?_)
  ·exact q_ret (cv_p rfl) rfl
  ·refine q_c1s (mg := m20 a1) (fun S hS => argF1 cv_r hS fun l0_ => w20 (by omega) l0_ a1) fun y1 hy1 i1 v1 => q_c0 (fun S hS => argF2 (cv_p rfl) (cv_tr 0 rfl) hS fun l0_ l1_ => w19 (by omega) a0 l1_ y1) fun y2 hy2 => q_new rfl fun b1 => q_st 0 rfl rfl rfl (by decide) rfl <| q_c1s (mg := m20 a1) (fun S hS => argF1 cv_r hS fun l0_ => w20 (by omega) l0_ a1) fun y3 hy3 i2 v2 => q_c1 (W := AV.agg) (mg := m21 a0 y3) sh_agg (fun S hS => argF2 (cv_p rfl) (cv_tr 0 rfl) hS fun l0_ l1_ => w21 (by omega) a0 l1_ y3) fun y4 hy4 i3 cs3 => q_cx (fun S hS => trx50 (hS.get (k := 0) rfl)) fun hcs_ => ?_
   obtain ⟨v3, v4, v5, v6, rfl⟩ := hcs_
   refine q_new rfl fun b2 => q_st 0 rfl rfl rfl (by decide) rfl <| q_lda 0 rfl rfl rfl <| q_lda 3 rfl rfl rfl <| q_c0 (fun S hS => argF2 (cv_a (cvs_tr 1 rfl)) (cv_a (cvs_e (l0 := false) (x := y2))) hS fun l0_ l1_ => w22 (by omega) l0_ y4 l1_ y2) fun y5 hy5 => q_p fr <| q_if (fun h9 => ?_) (fun h9 => ?_)
   ·exact q_ret (cv_p rfl) rfl
   ·refine q_c1s (mg := m20 a1) (fun S hS => argF1 cv_r hS fun l0_ => w20 (by omega) l0_ a1) fun y6 hy6 i4 v7 => q_c0 (fun S hS => argF2 (cv_tr 3 rfl) (cv_tr 0 rfl) hS fun l0_ l1_ => w23 (by omega) l0_ y3 l1_ y6) fun y7 hy7 => q_p fr <| q_if (fun h8 => ?_) (fun h8 => ?_)
    ·exact q_ret (cv_p rfl) rfl
    ·refine q_sel 6 [3, 0, 1, 2, 4, 5] (by decide) (by decide) <| q_s (mg := m24 y3 1) (w24 (by omega) _ i2 v2 y3 1) fun y8 hy8 => q_cut (I := (fun (s : Bool) l L => l = [.bool s] ∧ L = [tr i2 [v2] (y8.2 : List Int), tr i4 [v7] (y6 : List Int), bx b2 [.int .i64 y4.Code, .int .i64 y4.Cluster.F, v3, v4, v5, v6], tr i3 [.int .i64 y4.Code, .int .i64 y4.Cluster.F, v3, v4, v5, v6] (y4 : TClusterResult), bx b1 [.int .i64 y2.Code, .int .i64 y2.Cluster.F, .rsl false false (y2.Cluster.Bad.map (Enc.cs false)), .rsl false false (y2.Cluster.Replicas.map (Enc.cs false)), .rsl false false (y2.Cluster.Ledger.map (Enc.cs false)), .rsl false false (y2.Cluster.Requests.map (Enc.cs false))], tr i1 [v1] (y1 : List Int)])) ?_ ?_ ?_ ?_
     ·refine q_p fr <| q_gF (fun h2 => ?_) (fun h2 => ?_)
      ·first | refine q_ifT1 ?_ | skip
       exact q_lret 0 ⟨rfl, rfl⟩
      ·refine q_lda 2 rfl rfl rfl <| q_lda 4 rfl rfl rfl <| q_c0 (fun S hS => argF2 (cv_a (cvs_tr 3 rfl)) (cv_a (cvs_e (l0 := false) (x := y2))) hS fun l0_ l1_ => w22 (by omega) l0_ y4 l1_ y2) fun y9 hy9 => q_p fr <| q_if (fun h1 => ?_) (fun h1 => ?_)
       ·exact q_lret 0 ⟨rfl, rfl⟩
       ·exact q_norm 0 ⟨rfl, rfl⟩
     ·rintro s2 _ _ ⟨rfl, rfl⟩
      refine q_lda 2 rfl rfl rfl <| q_sel 6 [3, 0, 1, 2, 4, 5] (by decide) (by decide) <| q_s (mg := m25 y4 1) (w25 (by omega) _ i3 (.int .i64 y4.Code) (.int .i64 y4.Cluster.F) v3 v4 v5 v6 y4 1) fun y10 hy10 => q_lda 3 rfl rfl rfl <| q_c0 (fun S hS => argF2 (cv_a (cvs_tr 0 rfl)) (cv_p rfl) hS fun l0_ l1_ => w26 (by omega) l0_ y10.2 1) fun y11 hy11 => q_p fr <| q_if (fun h7 => ?_) (fun h7 => ?_)
      ·exact q_ret (cv_p rfl) rfl
      ·refine q_p fr <| q_if (fun h6 => ?_) (fun h6 => ?_)
       ·exact q_ret (cv_p rfl) rfl
       ·refine q_c1s (mg := m20 a1) (fun S hS => argF1 cv_r hS fun l0_ => w20 (by omega) l0_ a1) fun y12 hy12 i6 v8 => q_c1 (W := AV.agg) (mg := m21 a0 y12) sh_agg (fun S hS => argF2 (cv_p rfl) (cv_tr 0 rfl) hS fun l0_ l1_ => w21 (by omega) a0 l1_ y12) fun y13 hy13 i7 cs6 => q_cx (fun S hS => trx50 (hS.get (k := 0) rfl)) fun hcs_ => ?_
        obtain ⟨v9, v10, v11, v12, rfl⟩ := hcs_
        refine q_new rfl fun b3 => q_st 0 rfl rfl rfl (by decide) rfl <| q_lda 0 rfl rfl rfl <| q_lda 7 rfl rfl rfl <| q_c0 (fun S hS => argF2 (cv_a (cvs_tr 1 rfl)) (cv_a (cvs_e (l0 := false) (x := y2))) hS fun l0_ l1_ => w22 (by omega) l0_ y13 l1_ y2) fun y14 hy14 => q_p fr <| q_if (fun h5 => ?_) (fun h5 => ?_)
        ·exact q_ret (cv_p rfl) rfl
        ·refine q_lda 6 rfl rfl rfl <| q_c0 (fun S hS => argF2 (cv_a (cvs_tr 3 rfl)) (cv_p rfl) hS fun l0_ l1_ => w26 (by omega) l0_ y10.2 1) fun y15 hy15 => q_p fr <| q_if (fun h4 => ?_) (fun h4 => ?_)
         ·exact q_ret (cv_p rfl) rfl
         ·refine q_p fr <| q_if (fun h3 => ?_) (fun h3 => ?_)
          ·exact q_ret (cv_p rfl) rfl
          ·exact q_ret (cv_p rfl) rfl
     ·rintro i5 s2 _ _ ⟨rfl, rfl⟩
      exact q_none
     ·rintro s2 _ _ ⟨rfl, rfl⟩
      exact q_ret (cv_p rfl) rfl
end
end Go.Proofs.Ytodfmofjncmdfaa
