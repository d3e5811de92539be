/- Plain functions, and that the evaluator computes them. -/
import Derived.Test.YtionojjamahhpaaT
import Derived.Test.YtionojjamahhpaaRh2
namespace Go.Proofs.Ytionojjamahhpaa
open Go Go.Rf
set_option linter.unusedVariables false
structure TReply where
  Code : Int
  Value : Int
  Path : Str
  deriving DecidableEq
instance : Enc TReply := (Enc.of fun x : TReply => (x.Code, x.Value, x.Path)).copy (fun l x => [.int .i64 x.Code, .int .i64 x.Value, encS x.Path]) (fun _ _ => rfl) 3 0 rfl rfl
structure TVote where
  From : Int
  Reply : TReply
  deriving DecidableEq
instance : Enc TVote := (Enc.of fun x : TVote => (x.From, x.Reply)).copy (fun l x => [.int .i64 x.From, .int .i64 x.Reply.Code, .int .i64 x.Reply.Value, encS x.Reply.Path]) (fun _ _ => rfl) 4 0 rfl rfl
structure TReplyResult where
  Code : Int
  Reply : TReply
  deriving DecidableEq
instance : Enc TReplyResult := (Enc.of fun x : TReplyResult => (x.Code, x.Reply)).copy (fun l x => [.int .i64 x.Code, .int .i64 x.Reply.Code, .int .i64 x.Reply.Value, encS x.Reply.Path]) (fun _ _ => rfl) 4 0 rfl rfl
theorem bd55_0 {x0 r : AV} (hr : (afill (plc [(0, 1), (1, 3)]) [.int .i64 0, .int .i64 0, .int .i64 0, .str ⟨#[]⟩] [(0, x0)]).map AV.agg = some r) : abuild Try.prog 55 [(0, x0)] = some r := Eq.trans (by kernel_rfl) hr
theorem bd55_1 {x1 r : AV} (hr : (afill (plc [(0, 1), (1, 3)]) [.int .i64 0, .int .i64 0, .int .i64 0, .str ⟨#[]⟩] [(1, x1)]).map AV.agg = some r) : abuild Try.prog 55 [(1, x1)] = some r := Eq.trans (by kernel_rfl) hr
theorem bs31_0 (S : St) : abuildS Try.prog 31 0 [] S = some (.rsl false true [], S) := by kernel_rfl
theorem bs31_1 {x0 r : AV} {S : St} (hr : (aparts 1 0 [(0, x0)]).map (fun es => mkS 1 es S) = some (r, S)) : abuildS Try.prog 31 1 [(0, x0)] S = some (r, S) := Eq.trans (by kernel_rfl) hr
theorem cv86_50 (run : FuncId → List AV → St → Option (AV × St)) (cap args : List AV) (S : St) : callV (cfg NN) run 86 (.fn 50 cap) args S = call0 run 50 (args ++ cap) S := by kernel_rfl
theorem cvt152_3 (n : Int) (S : St) : aconv Try.prog 152 3 (.int .u64 n) S = some (.int .i64 (wi .i64 n)) := by kernel_rfl
theorem cvt169_5 (n : Int) (S : St) : aconv Try.prog 169 5 (.int .u32 n) S = some (.int .u8 (wi .u8 n)) := by kernel_rfl
theorem cvt171_5 (n : Int) (S : St) : aconv Try.prog 171 5 (.int .u64 n) S = some (.int .u8 (wi .u8 n)) := by kernel_rfl
theorem cvt3_152 (n : Int) (S : St) : aconv Try.prog 3 152 (.int .i64 n) S = some (.int .u64 (wi .u64 n)) := by kernel_rfl
theorem cvt3_175 (n : Int) (S : St) : aconv Try.prog 3 175 (.int .i64 n) S = some (.int .u64 (wi .u64 n)) := by kernel_rfl
theorem cvt5_3 (n : Int) (S : St) : aconv Try.prog 5 3 (.int .u8 n) S = some (.int .i64 (wi .i64 n)) := by kernel_rfl
theorem mk25 (S : St) (n : Nat) (h : (n + 1) * (40 + 1) ≤ 70368744177664) : amake Try.prog 25 (.int .i64 n) (.int .i64 n) S = some (.bsl S.length 0 n n true, S ++ [⟨4, List.replicate n [.int .i64 0, .int .i64 0, .int .i64 0, .str ⟨#[]⟩], true⟩]) :=
  amake_ok (e := 85) (sz := 4) (by_ := 40) (z := [.int .i64 0, .int .i64 0, .int .i64 0, .str ⟨#[]⟩]) (z0 := [.int .i64 0, .int .i64 0, .int .i64 0, .str ⟨#[]⟩]) (by kernel_rfl) (by kernel_rfl) (by kernel_rfl) rfl rfl (by omega) rfl rfl h
theorem seql532 (x0 : Int) (x1 : Int) (x2 : Str) (y0 : Int) (y1 : Int) (y2 : Str) : bin2 Try.prog .eql 53 (.agg [.int .i64 x0, .int .i64 x1, encS x2]) (.agg [.int .i64 y0, .int .i64 y1, encS y2]) = some (.bool (((x0 == y0) && ((x1 == y1) && ((x2 == y2) && true))))) :=
  Eq.trans (b := some (.bool (((x0 == y0) && ((x1 == y1) && (((ByteArray.mk x2.toArray).toList == (ByteArray.mk y2.toArray).toList) && true)))))) (by kernel_rfl) (by simp only [toList_mk])
/- laws.szReply -/
noncomputable def m37 (a0 : TReply) (a1 : Int) : Int :=
  bif decide ((wi .i64 (a1 - (a0.Path.length : Int))) < 0) then
    (-1)
  else
    wi .i64 (a1 - (a0.Path.length : Int))
theorem w37 {d : Nat} (hd : 1 ≤ d) (k0 : Bool) (a0 : TReply) (a1 : Int) : Fit (R NN d 37 [.agg (Enc.cs k0 a0), .int .i64 a1] []) (some (m37 a0 a1)) (P0 (fun (t : Int) => AV.int .i64 t)) := by
  obtain ⟨d, rfl, g⟩ := up hd
  rw [t37]
  refine (?_ : Okh [] (fun S => b37 (cfg NN) (R NN d) (.agg (Enc.cs k0 a0)) (.int .i64 a1) S) _ _) [] HP.nil
  unfold b37 m37
  refine okh_box (n := 3) rfl rfl (by decide) fun b1 => ?_
  refine okh_p (fun _ => rfl) ?_
  refine okh_ld 0 rfl rfl ?_
  refine okh_slen ?_
  refine okh_p (fun _ => rfl) ?_
  refine okh_p (fun _ => rfl) ?_
  refine okh_ift (fun h1 => ?_) (fun h1 => ?_)
  · exact okh_ret (cv_p rfl) rfl
  · exact okh_ret (cv_p rfl) rfl
/- laws.szVote -/
noncomputable def m45 (a0 : TVote) (a1 : Int) : Int :=
  bif decide ((m37 a0.Reply a1) < 0) then
    (-1)
  else
    (m37 a0.Reply a1)
theorem w45 {d : Nat} (hd : 2 ≤ d) (k0 : Bool) (a0 : TVote) (a1 : Int) : Fit (R NN d 45 [.agg (Enc.cs k0 a0), .int .i64 a1] []) (some (m45 a0 a1)) (P0 (fun (t : Int) => AV.int .i64 t)) := by
  obtain ⟨d, rfl, g⟩ := up hd
  rw [t45]
  refine (?_ : Okh [] (fun S => b45 (cfg NN) (R NN d) (.agg (Enc.cs k0 a0)) (.int .i64 a1) S) _ _) [] HP.nil
  unfold b45 m45
  refine okh_box (n := 4) rfl rfl (by decide) fun b1 => ?_
  refine okh_p (fun _ => rfl) ?_
  refine okh_lda 0 rfl rfl rfl ?_
  refine okh_c0t (y := m37 a0.Reply a1) (E := (fun (t : Int) => AV.int .i64 t)) (fun S hS => args2 (M := fun a => Fit (R NN d 37 a []) _ _) (cv_a (cvs_e (l0 := false) (x := a0.Reply))) (cv_p rfl) hS fun l0_ l1_ => w37 (by omega) l0_ a0.Reply a1) ?_
  refine okh_p (fun _ => rfl) ?_
  refine okh_ift (fun h1 => ?_) (fun h1 => ?_)
  · exact okh_ret (cv_p rfl) rfl
  · exact okh_ret (cv_p rfl) rfl
/- laws.szVoteS -/
noncomputable def ms8_0 (a0 : List TVote) (s1 : Int × Int × Int) : Option (LO (Int × Int × Int)) :=
  bif decide (s1.2.2 < (a0.length : Int)) then
    (getI a0 s1.2.2).bind fun x1 =>
    bif decide ((m45 x1 s1.1) < 0) then
      some (LO.ret ((m45 x1 s1.1), (-1), s1.2.2))
    else
      some (LO.norm ((m45 x1 s1.1), s1.2.1, wi .i64 (s1.2.2 + 1)))
  else
    some (LO.exit 0 (s1.1, s1.2.1, s1.2.2))
noncomputable def m8 (a0 : List TVote) (a1 : Int) : Option (Int) :=
  bif decide ((wi .i64 (a1 - (a0.length : Int))) < 0) then
    some (-1)
  else
    (loopO (ms8_0 a0) NN (wi .i64 (a1 - (a0.length : Int)), 0, 0)).bind (contO (fun _ => none) (fun i1 s2 =>
      if i1 = 0 then
        some s2.1
      else
        none) (fun s2 =>
      some s2.2.1))
theorem w8 {d : Nat} (hd : 3 ≤ d) (k0 : Bool) (a0 : List TVote) (a1 : Int) : Fit (R NN d 8 [.rsl k0 false (a0.map (Enc.cs k0)), .int .i64 a1] []) (m8 a0 a1) (P0 (fun (t : Int) => AV.int .i64 t)) := by
  obtain ⟨d, rfl, g⟩ := up hd
  rw [t8]
  refine (?_ : Okh [] (fun S => b8 (cfg NN) (R NN d) (.rsl k0 false (a0.map (Enc.cs k0))) (.int .i64 a1) S) _ _) [] HP.nil
  unfold b8 m8
  refine okh_len ?_
  refine okh_p (fun _ => rfl) ?_
  refine okh_p (fun _ => rfl) ?_
  refine okh_if (fun h3 => ?_) (fun h3 => ?_)
  · exact okh_ret (cv_p rfl) rfl
  · refine okh_loop (I := (fun (s : Int × Int × Int) l L => l = [.int .i64 s.1, .int .i64 s.2.1, .int .i64 s.2.2] ∧ L = [])) 0 ⟨rfl, rfl⟩ ?_ ?_ ?_
    · rintro s1 _ _ ⟨rfl, rfl⟩
      unfold s8_0 ms8_0
      refine okh_len ?_
      refine okh_p (fun _ => rfl) ?_
      refine okh_if (fun h2 => ?_) (fun h2 => ?_)
      · refine okh_ix rfl fun x1 hx1 => ?_
        refine okh_p (fun _ => rfl) ?_
        refine okh_c0t (y := m45 x1 s1.1) (E := (fun (t : Int) => AV.int .i64 t)) (fun S hS => args2 (M := fun a => Fit (R NN d 45 a []) _ _) (cv_a (cvs_e (l0 := k0) (x := x1))) (cv_p rfl) hS fun l0_ l1_ => w45 (by omega) l0_ x1 s1.1) ?_
        refine okh_p (fun _ => rfl) ?_
        refine okh_if (fun h1 => ?_) (fun h1 => ?_)
        · exact okh_lret 0 ⟨rfl, rfl⟩
        · refine okh_p (fun _ => rfl) ?_
          exact okh_norm 0 ⟨rfl, rfl⟩
      · exact okh_exit 0 ⟨rfl, rfl⟩
    · rintro i1 s2 _ _ ⟨rfl, rfl⟩
      refine okh_ite (fun _ => ?_) (fun _ => ?_)
      · exact okh_ret (cv_p rfl) rfl
      · exact okh_none
    · rintro s2 _ _ ⟨rfl, rfl⟩
      exact okh_ret (cv_p rfl) rfl
/- laws.toReply -/
noncomputable def m39 (a0 : TReply) : TReply :=
  a0
theorem w39 {d : Nat} (hd : 1 ≤ d) (k0 : Bool) (a0 : TReply) : Fit (R NN d 39 [.agg (Enc.cs k0 a0)] []) (some (m39 a0)) (P0 (fun (t : TReply) => AV.agg (Enc.cs false t))) := by
  obtain ⟨d, rfl, g⟩ := up hd
  rw [t39]
  refine (?_ : Okh [] (fun S => b39 (cfg NN) (R NN d) (.agg (Enc.cs k0 a0)) S) _ _) [] HP.nil
  unfold b39 m39
  refine okh_box (n := 3) rfl rfl (by decide) fun b1 => ?_
  refine okh_new rfl fun b2 => ?_
  refine okh_new rfl fun b3 => ?_
  refine okh_p (fun _ => rfl) ?_
  refine okh_ld 2 rfl rfl ?_
  refine okh_p (fun _ => rfl) ?_
  refine okh_st 0 rfl rfl rfl (by decide) rfl ?_
  refine okh_p (fun _ => rfl) ?_
  refine okh_ld 2 rfl rfl ?_
  refine okh_p (fun _ => rfl) ?_
  refine okh_st 0 rfl rfl rfl (by decide) rfl ?_
  refine okh_p (fun _ => rfl) ?_
  refine okh_ld 2 rfl rfl ?_
  refine okh_p (fun _ => rfl) ?_
  refine okh_st 0 rfl rfl rfl (by decide) rfl ?_
  refine okh_lda 0 rfl rfl rfl ?_
  refine okh_st 1 rfl rfl rfl (by decide) rfl ?_
  exact okh_retm (fun S hS => hS.lda 1 rfl rfl) (cv_a (cvs_e (l0 := false) (x := a0))) rfl
/- laws.toVote -/
noncomputable def m47 (a0 : TVote) : TVote :=
  (⟨a0.From, (m39 a0.Reply)⟩ : TVote)
theorem w47 {d : Nat} (hd : 2 ≤ d) (k0 : Bool) (a0 : TVote) : Fit (R NN d 47 [.agg (Enc.cs k0 a0)] []) (some (m47 a0)) (P0 (fun (t : TVote) => AV.agg (Enc.cs false t))) := by
  obtain ⟨d, rfl, g⟩ := up hd
  rw [t47]
  refine (?_ : Okh [] (fun S => b47 (cfg NN) (R NN d) (.agg (Enc.cs k0 a0)) S) _ _) [] HP.nil
  unfold b47 m47
  refine okh_box (n := 4) rfl rfl (by decide) fun b1 => ?_
  refine okh_new rfl fun b2 => ?_
  refine okh_new rfl fun b3 => ?_
  refine okh_p (fun _ => rfl) ?_
  refine okh_ld 2 rfl rfl ?_
  refine okh_p (fun _ => rfl) ?_
  refine okh_st 0 rfl rfl rfl (by decide) rfl ?_
  refine okh_p (fun _ => rfl) ?_
  refine okh_lda 2 rfl rfl rfl ?_
  refine okh_c0t (y := m39 a0.Reply) (E := (fun (t : TReply) => AV.agg (Enc.cs false t))) (fun S hS => args1 (M := fun a => Fit (R NN d 39 a []) _ _) (cv_a (cvs_e (l0 := false) (x := a0.Reply))) hS fun l0_ => w39 (by omega) l0_ a0.Reply) ?_
  refine okh_p (fun _ => rfl) ?_
  refine okh_st 0 rfl rfl rfl (by decide) rfl ?_
  refine okh_lda 0 rfl rfl rfl ?_
  refine okh_st 1 rfl rfl rfl (by decide) rfl ?_
  exact okh_retm (fun S hS => hS.lda 1 rfl rfl) (cv_a (cvs_cons (cv_p rfl) (cvs_cons (cv_p rfl) (cvs_cons (cv_p rfl) (cvs_cons (cv_p rfl) cvs_nil))))) rfl
/- laws.toVoteS -/
noncomputable def ms10_0 (a0 : List TVote) (s1 : Int × (List TVote)) : Option (LO (Int × (List TVote))) :=
  bif decide (s1.1 < (a0.length : Int)) then
    (getI a0 s1.1).bind fun x1 =>
    (getI s1.2 s1.1).bind fun x2 =>
    some (LO.norm (wi .i64 (s1.1 + 1), s1.2.set (Int.toNat s1.1) (m47 x1)))
  else
    some (LO.exit 0 (s1.1, s1.2))
noncomputable def m10 (a0 : List TVote) : Option ((List TVote)) :=
  (mkO 40 (a0.length : Int) (⟨0, (⟨0, 0, []⟩ : TReply)⟩ : TVote)).bind fun z1 =>
  (loopO (ms10_0 a0) NN (0, z1)).bind (contO (fun _ => none) (fun i1 s2 =>
    if i1 = 0 then
      some s2.2
    else
      none) (fun s2 =>
    some []))
theorem w10 {d : Nat} (hd : 3 ≤ d) (k0 : Bool) (a0 : List TVote) : Fit (R NN d 10 [.rsl k0 false (a0.map (Enc.cs k0))] []) (m10 a0) (P0 (fun (t : List TVote) => AV.rsl false false (t.map (Enc.cs false)))) := by
  obtain ⟨d, rfl, g⟩ := up hd
  rw [t10]
  refine (?_ : Okh [] (fun S => b10 (cfg NN) (R NN d) (.rsl k0 false (a0.map (Enc.cs k0))) S) _ _) [] HP.nil
  unfold b10 m10
  refine okh_len ?_
  refine okh_mk (z := (⟨0, (⟨0, 0, []⟩ : TReply)⟩ : TVote)) mk25 fun v1 z1 hz1 => ?_
  refine okh_loop (I := (fun (s : Int × (List TVote)) l L => l = [.int .i64 s.1] ∧ L = [sl false v1 (s.2 : List TVote)])) 0 ⟨rfl, rfl⟩ ?_ ?_ ?_
  · rintro s1 _ _ ⟨rfl, rfl⟩
    unfold s10_0 ms10_0
    refine okh_len ?_
    refine okh_p (fun _ => rfl) ?_
    refine okh_if (fun h1 => ?_) (fun h1 => ?_)
    · refine okh_ix rfl fun x1 hx1 => ?_
      refine okh_p (fun _ => rfl) ?_
      refine okh_c0t (y := m47 x1) (E := (fun (t : TVote) => AV.agg (Enc.cs false t))) (fun S hS => args1 (M := fun a => Fit (R NN d 47 a []) _ _) (cv_a (cvs_e (l0 := k0) (x := x1))) hS fun l0_ => w47 (by omega) l0_ x1) ?_
      refine okh_ixo 0 rfl rfl fun x2 hx2 => ?_
      refine okh_stoe (y := (m47 x1)) 0 rfl rfl hx2 rfl (by decide) ?_
      refine okh_p (fun _ => rfl) ?_
      exact okh_norm 0 ⟨rfl, rfl⟩
    · exact okh_exit 0 ⟨rfl, rfl⟩
  · rintro i1 s2 _ _ ⟨rfl, rfl⟩
    refine okh_ite (fun _ => ?_) (fun _ => ?_)
    · exact okh_ret (cv_o 0 rfl) rfl
    · exact okh_none
  · rintro s2 _ _ ⟨rfl, rfl⟩
    exact okh_ret (cv_r (α := TVote) (l0 := false) (fl := true) (xs := [])) rfl
/- laws.eqReply -/
noncomputable def m70 (a0 : TReply) (a1 : TReply) : Bool :=
  bif a0.Code != a1.Code then
    false
  else
    bif a0.Value != a1.Value then
      false
    else
      bif !(a0.Path == a1.Path) then
        false
      else
        true
theorem w70 {d : Nat} (hd : 1 ≤ d) (k0 : Bool) (a0 : TReply) (k1 : Bool) (a1 : TReply) : Fit (R NN d 70 [.agg (Enc.cs k0 a0), .agg (Enc.cs k1 a1)] []) (some (m70 a0 a1)) (P0 (fun (t : Bool) => AV.bool t)) := by
  obtain ⟨d, rfl, g⟩ := up hd
  rw [t70]
  refine (?_ : Okh [] (fun S => b70 (cfg NN) (R NN d) (.agg (Enc.cs k0 a0)) (.agg (Enc.cs k1 a1)) S) _ _) [] HP.nil
  unfold b70 m70
  refine okh_box (n := 3) rfl rfl (by decide) fun b1 => ?_
  refine okh_box (n := 3) rfl rfl (by decide) fun b2 => ?_
  refine okh_p (fun _ => rfl) ?_
  refine okh_ld 1 rfl rfl ?_
  refine okh_p (fun _ => rfl) ?_
  refine okh_ld 0 rfl rfl ?_
  refine okh_p (fun _ => rfl) ?_
  refine okh_ift (fun h3 => ?_) (fun h3 => ?_)
  · exact okh_ret (cv_p rfl) rfl
  · refine okh_p (fun _ => rfl) ?_
    refine okh_ld 1 rfl rfl ?_
    refine okh_p (fun _ => rfl) ?_
    refine okh_ld 0 rfl rfl ?_
    refine okh_p (fun _ => rfl) ?_
    refine okh_ift (fun h2 => ?_) (fun h2 => ?_)
    · exact okh_ret (cv_p rfl) rfl
    · refine okh_p (fun _ => rfl) ?_
      refine okh_ld 1 rfl rfl ?_
      refine okh_p (fun _ => rfl) ?_
      refine okh_ld 0 rfl rfl ?_
      refine okh_p (fun _ => seq_neq2) ?_
      refine okh_ift (fun h1 => ?_) (fun h1 => ?_)
      · exact okh_ret (cv_p rfl) rfl
      · exact okh_ret (cv_p rfl) rfl
/- laws.eqVote -/
noncomputable def m53 (a0 : TVote) (a1 : TVote) : Bool :=
  bif a0.From != a1.From then
    false
  else
    bif !(m70 a0.Reply a1.Reply) then
      false
    else
      true
theorem w53 {d : Nat} (hd : 2 ≤ d) (k0 : Bool) (a0 : TVote) (k1 : Bool) (a1 : TVote) : Fit (R NN d 53 [.agg (Enc.cs k0 a0), .agg (Enc.cs k1 a1)] []) (some (m53 a0 a1)) (P0 (fun (t : Bool) => AV.bool t)) := by
  obtain ⟨d, rfl, g⟩ := up hd
  rw [t53]
  refine (?_ : Okh [] (fun S => b53 (cfg NN) (R NN d) (.agg (Enc.cs k0 a0)) (.agg (Enc.cs k1 a1)) S) _ _) [] HP.nil
  unfold b53 m53
  refine okh_box (n := 4) rfl rfl (by decide) fun b1 => ?_
  refine okh_box (n := 4) rfl rfl (by decide) fun b2 => ?_
  refine okh_p (fun _ => rfl) ?_
  refine okh_ld 1 rfl rfl ?_
  refine okh_p (fun _ => rfl) ?_
  refine okh_ld 0 rfl rfl ?_
  refine okh_p (fun _ => rfl) ?_
  refine okh_ift (fun h2 => ?_) (fun h2 => ?_)
  · exact okh_ret (cv_p rfl) rfl
  · refine okh_p (fun _ => rfl) ?_
    refine okh_lda 1 rfl rfl rfl ?_
    refine okh_p (fun _ => rfl) ?_
    refine okh_lda 0 rfl rfl rfl ?_
    refine okh_c0t (y := m70 a0.Reply a1.Reply) (E := (fun (t : Bool) => AV.bool t)) (fun S hS => args2 (M := fun a => Fit (R NN d 70 a []) _ _) (cv_a (cvs_e (l0 := false) (x := a0.Reply))) (cv_a (cvs_e (l0 := false) (x := a1.Reply))) hS fun l0_ l1_ => w70 (by omega) l0_ a0.Reply l1_ a1.Reply) ?_
    refine okh_p (fun _ => rfl) ?_
    refine okh_ift (fun h1 => ?_) (fun h1 => ?_)
    · exact okh_ret (cv_p rfl) rfl
    · exact okh_ret (cv_p rfl) rfl
/- laws.eqVoteS -/
noncomputable def ms12_0 (a0 : List TVote) (a1 : List TVote) (s1 : Bool × Int) : Option (LO (Bool × Int)) :=
  bif decide (s1.2 < (a0.length : Int)) then
    (getI a0 s1.2).bind fun x1 =>
    (getI a1 s1.2).bind fun x2 =>
    bif !(m53 x1 x2) then
      some (LO.ret (false, s1.2))
    else
      some (LO.norm (s1.1, wi .i64 (s1.2 + 1)))
  else
    some (LO.exit 0 (s1.1, s1.2))
noncomputable def m12 (a0 : List TVote) (a1 : List TVote) : Option (Bool) :=
  bif (a0.length : Int) != (a1.length : Int) then
    some false
  else
    (loopO (ms12_0 a0 a1) NN (false, 0)).bind (contO (fun _ => none) (fun i1 s2 =>
      if i1 = 0 then
        some true
      else
        none) (fun s2 =>
      some s2.1))
theorem w12 {d : Nat} (hd : 3 ≤ d) (k0 : Bool) (a0 : List TVote) (k1 : Bool) (a1 : List TVote) : Fit (R NN d 12 [.rsl k0 false (a0.map (Enc.cs k0)), .rsl k1 false (a1.map (Enc.cs k1))] []) (m12 a0 a1) (P0 (fun (t : Bool) => AV.bool t)) := by
  obtain ⟨d, rfl, g⟩ := up hd
  rw [t12]
  refine (?_ : Okh [] (fun S => b12 (cfg NN) (R NN d) (.rsl k0 false (a0.map (Enc.cs k0))) (.rsl k1 false (a1.map (Enc.cs k1))) S) _ _) [] HP.nil
  unfold b12 m12
  refine okh_len ?_
  refine okh_len ?_
  refine okh_p (fun _ => rfl) ?_
  refine okh_if (fun h3 => ?_) (fun h3 => ?_)
  · exact okh_ret (cv_p rfl) rfl
  · refine okh_loop (I := (fun (s : Bool × Int) l L => l = [.bool s.1, .int .i64 s.2] ∧ L = [])) 0 ⟨rfl, rfl⟩ ?_ ?_ ?_
    · rintro s1 _ _ ⟨rfl, rfl⟩
      unfold s12_0 ms12_0
      refine okh_len ?_
      refine okh_p (fun _ => rfl) ?_
      refine okh_if (fun h2 => ?_) (fun h2 => ?_)
      · refine okh_ix rfl fun x1 hx1 => ?_
        refine okh_p (fun _ => rfl) ?_
        refine okh_ix rfl fun x2 hx2 => ?_
        refine okh_p (fun _ => rfl) ?_
        refine okh_c0t (y := m53 x1 x2) (E := (fun (t : Bool) => AV.bool t)) (fun S hS => args2 (M := fun a => Fit (R NN d 53 a []) _ _) (cv_a (cvs_e (l0 := k0) (x := x1))) (cv_a (cvs_e (l0 := k1) (x := x2))) hS fun l0_ l1_ => w53 (by omega) l0_ x1 l1_ x2) ?_
        refine okh_p (fun _ => rfl) ?_
        refine okh_if (fun h1 => ?_) (fun h1 => ?_)
        · exact okh_lret 0 ⟨rfl, rfl⟩
        · refine okh_p (fun _ => rfl) ?_
          exact okh_norm 0 ⟨rfl, rfl⟩
      · exact okh_exit 0 ⟨rfl, rfl⟩
    · rintro i1 s2 _ _ ⟨rfl, rfl⟩
      refine okh_ite (fun _ => ?_) (fun _ => ?_)
      · exact okh_ret (cv_p rfl) rfl
      · exact okh_none
    · rintro s2 _ _ ⟨rfl, rfl⟩
      exact okh_ret (cv_p rfl) rfl
/- spec.l1In -/
noncomputable def m90 (a0 : Int) (a1 : Int) (a2 : Int) : Bool :=
  bif decide (a0 ≥ a1) then
    decide (a0 ≤ a2)
  else
    false
theorem w90 {d : Nat} (hd : 1 ≤ d) (a0 : Int) (a1 : Int) (a2 : Int) : Fit (R NN d 90 [.int .i64 a0, .int .i64 a1, .int .i64 a2] []) (some (m90 a0 a1 a2)) (P0 (fun (t : Bool) => AV.bool t)) := by
  obtain ⟨d, rfl, g⟩ := up hd
  rw [t90]
  refine (?_ : Okh [] (fun S => b90 (cfg NN) (R NN d) (.int .i64 a0) (.int .i64 a1) (.int .i64 a2) S) _ _) [] HP.nil
  unfold b90 m90
  refine okh_p (fun _ => rfl) ?_
  refine okh_gTt (fun h1 => ?_) (fun h1 => ?_)
  · refine okh_p (fun _ => rfl) ?_
    exact okh_ret (cv_p rfl) rfl
  · exact okh_ret (cv_p rfl) rfl
/- spec.l8F -/
noncomputable def m71 (a0 : Int) : Bool :=
  (m90 a0 1 2)
theorem w71 {d : Nat} (hd : 2 ≤ d) (a0 : Int) : Fit (R NN d 71 [.int .i64 a0] []) (some (m71 a0)) (P0 (fun (t : Bool) => AV.bool t)) := by
  obtain ⟨d, rfl, g⟩ := up hd
  rw [t71]
  refine (?_ : Okh [] (fun S => b71 (cfg NN) (R NN d) (.int .i64 a0) S) _ _) [] HP.nil
  unfold b71 m71
  refine okh_c0t (y := m90 a0 1 2) (E := (fun (t : Bool) => AV.bool t)) (fun S hS => args3 (M := fun a => Fit (R NN d 90 a []) _ _) (cv_p rfl) (cv_p rfl) (cv_p rfl) hS fun l0_ l1_ l2_ => w90 (by omega) a0 1 2) ?_
  exact okh_ret (cv_p rfl) rfl
/- spec.l8Id -/
noncomputable def m83 (a0 : Int) (a1 : Int) : Bool :=
  (m90 a1 1 (wi .i64 ((wi .i64 (3 * a0)) + 1)))
theorem w83 {d : Nat} (hd : 2 ≤ d) (a0 : Int) (a1 : Int) : Fit (R NN d 83 [.int .i64 a0, .int .i64 a1] []) (some (m83 a0 a1)) (P0 (fun (t : Bool) => AV.bool t)) := by
  obtain ⟨d, rfl, g⟩ := up hd
  rw [t83]
  refine (?_ : Okh [] (fun S => b83 (cfg NN) (R NN d) (.int .i64 a0) (.int .i64 a1) S) _ _) [] HP.nil
  unfold b83 m83
  refine okh_p (fun _ => rfl) ?_
  refine okh_p (fun _ => rfl) ?_
  refine okh_c0t (y := m90 a1 1 (wi .i64 ((wi .i64 (3 * a0)) + 1))) (E := (fun (t : Bool) => AV.bool t)) (fun S hS => args3 (M := fun a => Fit (R NN d 90 a []) _ _) (cv_p rfl) (cv_p rfl) (cv_p rfl) hS fun l0_ l1_ l2_ => w90 (by omega) a1 1 (wi .i64 ((wi .i64 (3 * a0)) + 1))) ?_
  exact okh_ret (cv_p rfl) rfl
/- spec.l6Reply -/
noncomputable def m84 (a0 : TReply) : Option (Bool) :=
  (
    bif (m90 a0.Code 0 10) then
      bif (m90 a0.Value (-1) 9999) then
        some (LO.norm (decide ((a0.Path.length : Int) ≤ 24)))
      else
        some (LO.norm false)
    else
      some (LO.norm false)).bind (contO (fun s2 =>
    some s2) (fun i1 s2 =>
    none) (fun s2 =>
    some s2))
theorem w84 {d : Nat} (hd : 2 ≤ d) (k0 : Bool) (a0 : TReply) : Fit (R NN d 84 [.rp k0 (Enc.cs k0 a0)] []) (m84 a0) (P0 (fun (t : Bool) => AV.bool t)) := by
  obtain ⟨d, rfl, g⟩ := up hd
  rw [t84]
  refine (?_ : Okh [] (fun S => b84 (cfg NN) (R NN d) (.rp k0 (Enc.cs k0 a0)) S) _ _) [] HP.nil
  unfold b84 m84
  refine okh_cut (I := (fun (s : Bool) l L => l = [.bool s] ∧ L = [])) ?_ ?_ ?_ ?_
  · refine okh_q (fun _ => rfl) ?_
    refine okh_p (fun _ => rfl) ?_
    refine okh_p (fun _ => rfl) ?_
    refine okh_c0t (y := m90 a0.Code 0 10) (E := (fun (t : Bool) => AV.bool t)) (fun S hS => args3 (M := fun a => Fit (R NN d 90 a []) _ _) (cv_p rfl) (cv_p rfl) (cv_p rfl) hS fun l0_ l1_ l2_ => w90 (by omega) a0.Code 0 10) ?_
    refine okh_gT (fun h2 => ?_) (fun h2 => ?_)
    · refine okh_q (fun _ => rfl) ?_
      refine okh_p (fun _ => rfl) ?_
      refine okh_p (fun _ => rfl) ?_
      refine okh_c0t (y := m90 a0.Value (-1) 9999) (E := (fun (t : Bool) => AV.bool t)) (fun S hS => args3 (M := fun a => Fit (R NN d 90 a []) _ _) (cv_p rfl) (cv_p rfl) (cv_p rfl) hS fun l0_ l1_ l2_ => w90 (by omega) a0.Value (-1) 9999) ?_
      refine okh_gT (fun h1 => ?_) (fun h1 => ?_)
      · refine okh_q (fun _ => rfl) ?_
        refine okh_p (fun _ => rfl) ?_
        refine okh_p (fun _ => rfl) ?_
        refine okh_slen ?_
        refine okh_p (fun _ => rfl) ?_
        exact okh_norm 0 ⟨rfl, rfl⟩
      · exact okh_norm 0 ⟨rfl, rfl⟩
    · exact okh_norm 0 ⟨rfl, rfl⟩
  · rintro s2 _ _ ⟨rfl, rfl⟩
    exact okh_ret (cv_p rfl) rfl
  · rintro i1 s2 _ _ ⟨rfl, rfl⟩
    exact okh_none
  · rintro s2 _ _ ⟨rfl, rfl⟩
    exact okh_ret (cv_p rfl) rfl
/- spec.l14Fault -/
noncomputable def ms46_0 (a0 : Int) (a1 : List TVote) (s1 : Int × Int) : Option (LO (Int × Int)) :=
  bif decide (s1.2 < (a1.length : Int)) then
    (
      (getI a1 s1.2).bind fun x1 =>
      bif !(m83 a0 x1.From) then
        some (LO.ret 3)
      else
        (getI a1 s1.2).bind fun x2 =>
        (m84 x2.Reply).bind fun y1 =>
        bif !y1 then
          some (LO.ret 3)
        else
          some (LO.norm s1.1)).bind (contO (fun s3 =>
      some (LO.norm (s3, wi .i64 (s1.2 + 1)))) (fun i1 s3 =>
      some (LO.exit i1 (s3, s1.2))) (fun s3 =>
      some (LO.ret (s3, s1.2))))
  else
    some (LO.exit 0 (s1.1, s1.2))
noncomputable def m46 (a0 : Int) (a1 : List TVote) : Option (Int) :=
  bif !(m71 a0) then
    some 3
  else
    bif decide ((a1.length : Int) > 40) then
      some 2
    else
      (loopO (ms46_0 a0 a1) NN (0, 0)).bind (contO (fun _ => none) (fun i2 s4 =>
        if i2 = 0 then
          some 0
        else
          none) (fun s4 =>
        some s4.1))
theorem w46 {d : Nat} (hd : 3 ≤ d) (a0 : Int) (k1 : Bool) (a1 : List TVote) : Fit (R NN d 46 [.int .i64 a0, .rsl k1 false (a1.map (Enc.cs k1))] []) (m46 a0 a1) (P0 (fun (t : Int) => AV.int .i64 t)) := by
  obtain ⟨d, rfl, g⟩ := up hd
  rw [t46]
  refine (?_ : Okh [] (fun S => b46 (cfg NN) (R NN d) (.int .i64 a0) (.rsl k1 false (a1.map (Enc.cs k1))) S) _ _) [] HP.nil
  unfold b46 m46
  refine okh_c0t (y := m71 a0) (E := (fun (t : Bool) => AV.bool t)) (fun S hS => args1 (M := fun a => Fit (R NN d 71 a []) _ _) (cv_p rfl) hS fun l0_ => w71 (by omega) a0) ?_
  refine okh_p (fun _ => rfl) ?_
  refine okh_if (fun h5 => ?_) (fun h5 => ?_)
  · exact okh_ret (cv_p rfl) rfl
  · refine okh_len ?_
    refine okh_p (fun _ => rfl) ?_
    refine okh_if (fun h4 => ?_) (fun h4 => ?_)
    · exact okh_ret (cv_p rfl) rfl
    · refine okh_loop (I := (fun (s : Int × Int) l L => l = [.int .i64 s.1, .int .i64 s.2] ∧ L = [])) 0 ⟨rfl, rfl⟩ ?_ ?_ ?_
      · rintro s1 _ _ ⟨rfl, rfl⟩
        unfold s46_0 ms46_0
        refine okh_len ?_
        refine okh_p (fun _ => rfl) ?_
        refine okh_if (fun h3 => ?_) (fun h3 => ?_)
        · refine okh_cut (I := (fun (s : Int) l L => l = [.int .i64 s] ∧ L = [])) ?_ ?_ ?_ ?_
          · refine okh_ix rfl fun x1 hx1 => ?_
            refine okh_p (fun _ => rfl) ?_
            refine okh_p (fun _ => rfl) ?_
            refine okh_c0t (y := m83 a0 x1.From) (E := (fun (t : Bool) => AV.bool t)) (fun S hS => args2 (M := fun a => Fit (R NN d 83 a []) _ _) (cv_p rfl) (cv_p rfl) hS fun l0_ l1_ => w83 (by omega) a0 x1.From) ?_
            refine okh_p (fun _ => rfl) ?_
            refine okh_gF (fun h2 => ?_) (fun h2 => ?_)
            · exact okh_lret 0 ⟨rfl, rfl⟩
            · refine okh_ix rfl fun x2 hx2 => ?_
              refine okh_p (fun _ => rfl) ?_
              refine okh_c0 (mg := m84 x2.Reply) (E := (fun (t : Bool) => AV.bool t)) (fun S hS => args1 (M := fun a => Fit (R NN d 84 a []) _ _) (cv_rp (cvs_e (l0 := k1) (x := x2.Reply)) (fun _ _ _ h => Enc.frz k1 x2.Reply _ _ _ h)) hS fun l0_ => w84 (by omega) l0_ x2.Reply) fun y1 hy1 => ?_
              refine okh_p (fun _ => rfl) ?_
              refine okh_if (fun h1 => ?_) (fun h1 => ?_)
              · exact okh_lret 0 ⟨rfl, rfl⟩
              · exact okh_norm 0 ⟨rfl, rfl⟩
          · rintro s3 _ _ ⟨rfl, rfl⟩
            refine okh_p (fun _ => rfl) ?_
            exact okh_norm 0 ⟨rfl, rfl⟩
          · rintro i1 s3 _ _ ⟨rfl, rfl⟩
            exact okh_exit 0 ⟨rfl, rfl⟩
          · rintro s3 _ _ ⟨rfl, rfl⟩
            exact okh_lret 0 ⟨rfl, rfl⟩
        · exact okh_exit 0 ⟨rfl, rfl⟩
      · rintro i2 s4 _ _ ⟨rfl, rfl⟩
        refine okh_ite (fun _ => ?_) (fun _ => ?_)
        · exact okh_ret (cv_p rfl) rfl
        · exact okh_none
      · rintro s4 _ _ ⟨rfl, rfl⟩
        exact okh_ret (cv_p rfl) rfl
/- spec.l14Voters -/
noncomputable def ms68_0 (a1 : List TVote) (a2 : TReply) (s1 : Int × (List Int)) (s3 : Bool × Int) : Option (LO (Bool × Int)) :=
  bif decide (s3.2 < (a1.length : Int)) then
    (
      bif s3.1 then
        some (LO.norm true)
      else
        (getI a1 s3.2).bind fun x1 =>
        bif x1.From == s1.1 then
          (getI a1 s3.2).bind fun x2 =>
          some (LO.norm ((x2.Reply.Code == a2.Code) && ((x2.Reply.Value == a2.Value) && ((x2.Reply.Path == a2.Path) && true))))
        else
          some (LO.norm false)).bind (contO (fun s5 =>
      some (LO.norm (s5, wi .i64 (s3.2 + 1)))) (fun i1 s5 =>
      some (LO.exit i1 (s5, s3.2))) (fun s5 =>
      some (LO.ret (s5, s3.2))))
  else
    some (LO.exit 2 (s3.1, s3.2))
noncomputable def ms68_1 (a0 : Int) (a1 : List TVote) (a2 : TReply) (s1 : Int × (List Int)) : Option (LO (Int × (List Int))) :=
  bif decide (s1.1 ≤ (wi .i64 ((wi .i64 (3 * a0)) + 1))) then
    (
      (loopO (ms68_0 a1 a2 s1) NN (false, 0)).bind (contO (fun _ => none) (fun i2 s6 =>
        if i2 = 2 then
          bif s6.1 then
            (appO 8 s1.2 [s1.1]).bind fun z1 =>
            some (LO.norm z1)
          else
            some (LO.norm s1.2)
        else
          if i2 = 1 then
            some (LO.norm s1.2)
          else
            some (LO.exit i2 s1.2)) (fun s6 =>
        some (LO.ret s1.2)))).bind (contO (fun s7 =>
      some (LO.norm (wi .i64 (s1.1 + 1), s7))) (fun i3 s7 =>
      some (LO.exit i3 (s1.1, s7))) (fun s7 =>
      some (LO.ret (s1.1, s7))))
  else
    some (LO.exit 0 (s1.1, s1.2))
noncomputable def m68 (a0 : Int) (a1 : List TVote) (a2 : TReply) : Option ((List Int)) :=
  (loopO (ms68_1 a0 a1 a2) NN (1, [])).bind (contO (fun _ => none) (fun i4 s8 =>
    if i4 = 0 then
      some s8.2
    else
      none) (fun s8 =>
    some []))
theorem w68 {d : Nat} (hd : 1 ≤ d) (a0 : Int) (k1 : Bool) (a1 : List TVote) (k2 : Bool) (a2 : TReply) : Fit (R NN d 68 [.int .i64 a0, .rsl k1 false (a1.map (Enc.cs k1)), .agg (Enc.cs k2 a2)] []) (m68 a0 a1 a2) (P0 (fun (t : List Int) => AV.rsl false false (t.map (Enc.cs false)))) := by
  obtain ⟨d, rfl, g⟩ := up hd
  rw [t68]
  refine (?_ : Okh [] (fun S => b68 (cfg NN) (R NN d) (.int .i64 a0) (.rsl k1 false (a1.map (Enc.cs k1))) (.agg (Enc.cs k2 a2)) S) _ _) [] HP.nil
  unfold b68 m68
  refine okh_box (n := 3) rfl rfl (by decide) fun b1 => ?_
  refine okh_e (fun _ => bs31_0 _) ?_
  refine okh_nil (α := Int) false ?_
  refine okh_loop (I := (fun (s : Int × (List Int)) l L => ∃ (v1 : AV), l = [v1, .int .i64 s.1] ∧ L = [sl false v1 (s.2 : List Int), bx b1 [.int .i64 a2.Code, .int .i64 a2.Value, encS a2.Path]])) 0 ⟨(.rsl false true []), rfl, rfl⟩ ?_ ?_ ?_
  · rintro s1 _ _ ⟨v1, rfl, rfl⟩
    unfold s68_1 ms68_1
    refine okh_p (fun _ => rfl) ?_
    refine okh_p (fun _ => rfl) ?_
    refine okh_p (fun _ => rfl) ?_
    refine okh_if (fun h5 => ?_) (fun h5 => ?_)
    · refine okh_cut (I := (fun (s : (List Int)) l L => ∃ (v2 : AV), l = [v2] ∧ L = [sl false v2 (s : List Int), bx b1 [.int .i64 a2.Code, .int .i64 a2.Value, encS a2.Path]])) ?_ ?_ ?_ ?_
      · refine okh_loop (I := (fun (s : Bool × Int) l L => l = [.bool s.1, .int .i64 s.2] ∧ L = [sl false v1 (s1.2 : List Int), bx b1 [.int .i64 a2.Code, .int .i64 a2.Value, encS a2.Path]])) 0 ⟨rfl, rfl⟩ ?_ ?_ ?_
        · rintro s3 _ _ ⟨rfl, rfl⟩
          unfold s68_0 ms68_0
          refine okh_len ?_
          refine okh_p (fun _ => rfl) ?_
          refine okh_if (fun h3 => ?_) (fun h3 => ?_)
          · refine okh_cut (I := (fun (s : Bool) l L => l = [.bool s] ∧ L = [sl false v1 (s1.2 : List Int), bx b1 [.int .i64 a2.Code, .int .i64 a2.Value, encS a2.Path]])) ?_ ?_ ?_ ?_
            · refine okh_gF (fun h2 => ?_) (fun h2 => ?_)
              · exact okh_norm 0 ⟨rfl, rfl⟩
              · refine okh_ix rfl fun x1 hx1 => ?_
                refine okh_p (fun _ => rfl) ?_
                refine okh_p (fun _ => rfl) ?_
                refine okh_p (fun _ => rfl) ?_
                refine okh_gT (fun h1 => ?_) (fun h1 => ?_)
                · refine okh_ix rfl fun x2 hx2 => ?_
                  refine okh_p (fun _ => rfl) ?_
                  refine okh_p (fun _ => rfl) ?_
                  refine okh_lda 1 rfl rfl rfl ?_
                  refine okh_p (fun _ => seql532 _ _ _ _ _ _) ?_
                  exact okh_norm 0 ⟨rfl, rfl⟩
                · exact okh_norm 0 ⟨rfl, rfl⟩
            · rintro s5 _ _ ⟨rfl, rfl⟩
              refine okh_p (fun _ => rfl) ?_
              exact okh_norm 0 ⟨rfl, rfl⟩
            · rintro i1 s5 _ _ ⟨rfl, rfl⟩
              exact okh_exit 0 ⟨rfl, rfl⟩
            · rintro s5 _ _ ⟨rfl, rfl⟩
              exact okh_lret 0 ⟨rfl, rfl⟩
          · exact okh_exit 0 ⟨rfl, rfl⟩
        · rintro i2 s6 _ _ ⟨rfl, rfl⟩
          refine okh_ite (fun _ => ?_) (fun _ => ?_)
          · refine okh_if (fun h4 => ?_) (fun h4 => ?_)
            · refine okh_e (fun _ => bs31_1 rfl) ?_
              refine okh_app (ys := [s1.1]) 0 rfl rfl (fun _ _ => rfl) fun v2 z1 hz1 => ?_
              exact okh_norm 0 ⟨v2, rfl, rfl⟩
            · exact okh_norm 0 ⟨v1, rfl, rfl⟩
          · refine okh_ite (fun _ => ?_) (fun _ => ?_)
            · exact okh_norm 0 ⟨v1, rfl, rfl⟩
            · exact okh_exit 0 ⟨v1, rfl, rfl⟩
        · rintro s6 _ _ ⟨rfl, rfl⟩
          exact okh_lret 0 ⟨v1, rfl, rfl⟩
      · rintro s7 _ _ ⟨v3, rfl, rfl⟩
        refine okh_p (fun _ => rfl) ?_
        exact okh_norm 0 ⟨v3, rfl, rfl⟩
      · rintro i3 s7 _ _ ⟨v4, rfl, rfl⟩
        exact okh_exit 0 ⟨v4, rfl, rfl⟩
      · rintro s7 _ _ ⟨v5, rfl, rfl⟩
        exact okh_lret 0 ⟨v5, rfl, rfl⟩
    · exact okh_exit 0 ⟨v1, rfl, rfl⟩
  · rintro i4 s8 _ _ ⟨v6, rfl, rfl⟩
    refine okh_ite (fun _ => ?_) (fun _ => ?_)
    · exact okh_ret (cv_o 0 rfl) rfl
    · exact okh_none
  · rintro s8 _ _ ⟨v7, rfl, rfl⟩
    exact okh_ret (cv_r (α := Int) (l0 := false) (fl := true) (xs := [])) rfl
/- spec.AcceptOf -/
noncomputable def ms26_0 (a0 : Int) (a1 : List TVote) (s1 : Int × Int × Int × Str) : Option (LO (Int × Int × Int × Str)) :=
  bif decide (s1.1 < (a1.length : Int)) then
    (getI a1 s1.1).bind fun x1 =>
    (m68 a0 a1 x1.Reply).bind fun y2 =>
    bif decide ((y2.length : Int) > a0) then
      (getI a1 s1.1).bind fun x2 =>
      some (LO.ret (s1.1, x2.Reply.Code, x2.Reply.Value, x2.Reply.Path))
    else
      some (LO.norm (wi .i64 (s1.1 + 1), s1.2.1, s1.2.2.1, s1.2.2.2))
  else
    some (LO.exit 0 (s1.1, s1.2.1, s1.2.2.1, s1.2.2.2))
noncomputable def m26 (a0 : Int) (a1 : List TVote) : Option (TReplyResult) :=
  (m46 a0 a1).bind fun y1 =>
  bif y1 != 0 then
    some (⟨y1, (⟨0, 0, []⟩ : TReply)⟩ : TReplyResult)
  else
    (loopO (ms26_0 a0 a1) NN (0, 0, 0, [])).bind (contO (fun _ => none) (fun i1 s2 =>
      if i1 = 0 then
        some (⟨10, (⟨0, 0, []⟩ : TReply)⟩ : TReplyResult)
      else
        none) (fun s2 =>
      some (⟨0, (⟨s2.2.1, s2.2.2.1, s2.2.2.2⟩ : TReply)⟩ : TReplyResult)))
theorem w26 {d : Nat} (hd : 4 ≤ d) (a0 : Int) (k1 : Bool) (a1 : List TVote) : Fit (R NN d 26 [.int .i64 a0, .rsl k1 false (a1.map (Enc.cs k1))] []) (m26 a0 a1) (P0 (fun (t : TReplyResult) => AV.agg (Enc.cs false t))) := by
  obtain ⟨d, rfl, g⟩ := up hd
  rw [t26]
  refine (?_ : Okh [] (fun S => b26 (cfg NN) (R NN d) (.int .i64 a0) (.rsl k1 false (a1.map (Enc.cs k1))) S) _ _) [] HP.nil
  unfold b26 m26
  refine okh_new rfl fun b1 => ?_
  refine okh_c0 (mg := m46 a0 a1) (E := (fun (t : Int) => AV.int .i64 t)) (fun S hS => args2 (M := fun a => Fit (R NN d 46 a []) _ _) (cv_p rfl) cv_r hS fun l0_ l1_ => w46 (by omega) a0 l1_ a1) fun y1 hy1 => ?_
  refine okh_p (fun _ => rfl) ?_
  refine okh_if (fun h3 => ?_) (fun h3 => ?_)
  · refine okh_p (fun _ => bd55_0 rfl) ?_
    refine okh_st 0 rfl rfl rfl (by decide) rfl ?_
    exact okh_retm (fun S hS => hS.lda 0 rfl rfl) (cv_a (cvs_cons (cv_p rfl) (cvs_cons (cv_p rfl) (cvs_cons (cv_p rfl) (cvs_cons (cv_p rfl) cvs_nil))))) rfl
  · refine okh_loop (I := (fun (s : Int × Int × Int × Str) l L => l = [.int .i64 s.1] ∧ L = [bx b1 [.int .i64 0, .int .i64 s.2.1, .int .i64 s.2.2.1, encS s.2.2.2]])) 0 ⟨rfl, rfl⟩ ?_ ?_ ?_
    · rintro s1 _ _ ⟨rfl, rfl⟩
      unfold s26_0 ms26_0
      refine okh_len ?_
      refine okh_p (fun _ => rfl) ?_
      refine okh_if (fun h2 => ?_) (fun h2 => ?_)
      · refine okh_ix rfl fun x1 hx1 => ?_
        refine okh_p (fun _ => rfl) ?_
        refine okh_p (fun _ => rfl) ?_
        refine okh_c0 (mg := m68 a0 a1 x1.Reply) (E := (fun (t : List Int) => AV.rsl false false (t.map (Enc.cs false)))) (fun S hS => args3 (M := fun a => Fit (R NN d 68 a []) _ _) (cv_p rfl) cv_r (cv_a (cvs_e (l0 := k1) (x := x1.Reply))) hS fun l0_ l1_ l2_ => w68 (by omega) a0 l1_ a1 l2_ x1.Reply) fun y2 hy2 => ?_
        refine okh_len ?_
        refine okh_p (fun _ => rfl) ?_
        refine okh_if (fun h1 => ?_) (fun h1 => ?_)
        · refine okh_ix rfl fun x2 hx2 => ?_
          refine okh_p (fun _ => rfl) ?_
          refine okh_p (fun _ => rfl) ?_
          refine okh_p (fun _ => bd55_1 rfl) ?_
          refine okh_st 0 rfl rfl rfl (by decide) rfl ?_
          exact okh_lret 0 ⟨rfl, rfl⟩
        · refine okh_p (fun _ => rfl) ?_
          exact okh_norm 0 ⟨rfl, rfl⟩
      · exact okh_exit 0 ⟨rfl, rfl⟩
    · rintro i1 s2 _ _ ⟨rfl, rfl⟩
      refine okh_ite (fun _ => ?_) (fun _ => ?_)
      · refine okh_p (fun _ => bd55_0 rfl) ?_
        refine okh_st 0 rfl rfl rfl (by decide) rfl ?_
        exact okh_retm (fun S hS => hS.lda 0 rfl rfl) (cv_a (cvs_cons (cv_p rfl) (cvs_cons (cv_p rfl) (cvs_cons (cv_p rfl) (cvs_cons (cv_p rfl) cvs_nil))))) rfl
      · exact okh_none
    · rintro s2 _ _ ⟨rfl, rfl⟩
      exact okh_retm (fun S hS => hS.lda 0 rfl rfl) (cv_a (cvs_cons (cv_p rfl) (cvs_cons (cv_p rfl) (cvs_cons (cv_p rfl) (cvs_cons (cv_p rfl) cvs_nil))))) rfl
/- impl.within -/
noncomputable def m85 (a0 : Int) (a1 : Int) (a2 : Int) : Bool :=
  bif decide (a1 ≤ a0) then
    decide (a0 ≤ a2)
  else
    false
theorem w85 {d : Nat} (hd : 1 ≤ d) (a0 : Int) (a1 : Int) (a2 : Int) : Fit (R NN d 85 [.int .i64 a0, .int .i64 a1, .int .i64 a2] []) (some (m85 a0 a1 a2)) (P0 (fun (t : Bool) => AV.bool t)) := by
  obtain ⟨d, rfl, g⟩ := up hd
  rw [t85]
  refine (?_ : Okh [] (fun S => b85 (cfg NN) (R NN d) (.int .i64 a0) (.int .i64 a1) (.int .i64 a2) S) _ _) [] HP.nil
  unfold b85 m85
  refine okh_p (fun _ => rfl) ?_
  refine okh_gTt (fun h1 => ?_) (fun h1 => ?_)
  · refine okh_p (fun _ => rfl) ?_
    exact okh_ret (cv_p rfl) rfl
  · exact okh_ret (cv_p rfl) rfl
/- impl.isF -/
noncomputable def m48 (a0 : Int) : Bool :=
  (m85 a0 1 2)
theorem w48 {d : Nat} (hd : 2 ≤ d) (a0 : Int) : Fit (R NN d 48 [.int .i64 a0] []) (some (m48 a0)) (P0 (fun (t : Bool) => AV.bool t)) := by
  obtain ⟨d, rfl, g⟩ := up hd
  rw [t48]
  refine (?_ : Okh [] (fun S => b48 (cfg NN) (R NN d) (.int .i64 a0) S) _ _) [] HP.nil
  unfold b48 m48
  refine okh_c0t (y := m85 a0 1 2) (E := (fun (t : Bool) => AV.bool t)) (fun S hS => args3 (M := fun a => Fit (R NN d 85 a []) _ _) (cv_p rfl) (cv_p rfl) (cv_p rfl) hS fun l0_ l1_ l2_ => w85 (by omega) a0 1 2) ?_
  exact okh_ret (cv_p rfl) rfl
/- impl.Vote] -/
noncomputable def ms86_0 (a0 : List TVote) (a1 : TVote → Option (Bool)) (s1 : Int × Int) : Option (LO (Int × Int)) :=
  bif decide (s1.2 < (a0.length : Int)) then
    (getI a0 s1.2).bind fun x1 =>
    (a1 x1).bind fun y1 =>
    bif y1 then
      some (LO.ret (s1.2, s1.2))
    else
      some (LO.norm (s1.1, wi .i64 (s1.2 + 1)))
  else
    some (LO.exit 0 (s1.1, s1.2))
noncomputable def m86 (a0 : List TVote) (a1 : TVote → Option (Bool)) : Option (Int) :=
  (loopO (ms86_0 a0 a1) NN (0, 0)).bind (contO (fun _ => none) (fun i1 s2 =>
    if i1 = 0 then
      some (-1)
    else
      none) (fun s2 =>
    some s2.1))
theorem w86 {Dc : Nat} {d : Nat} (hd : Dc + 1 ≤ d) (k0 : Bool) (a0 : List TVote) (c1 : Bool → AV) (hc1 : ∀ l, CV 8 [] false (c1 l) c1) (a1 : TVote → Option (Bool)) (tc1 : ∀ (d : Nat), Dc ≤ d → ∀ (l : Bool) (q0 : Bool) (x0 : TVote) (S : St) (t : Bool), a1 x0 = some t → callV (cfg NN) (R NN d) 86 (c1 l) [.agg (Enc.cs q0 x0)] S = some ((fun (t : Bool) => AV.bool t) t, S)) (k1 : Bool) : Fit (R NN d 86 [.rsl k0 false (a0.map (Enc.cs k0)), c1 k1] []) (m86 a0 a1) (P0 (fun (t : Int) => AV.int .i64 t)) := by
  obtain ⟨d, rfl, g⟩ := up hd
  rw [t86]
  refine (?_ : Okh [] (fun S => b86 (cfg NN) (R NN d) (.rsl k0 false (a0.map (Enc.cs k0))) (c1 k1) S) _ _) [] HP.nil
  unfold b86 m86
  refine okh_len ?_
  refine okh_loop (I := (fun (s : Int × Int) l L => l = [.int .i64 s.1, .int .i64 s.2] ∧ L = [])) 0 ⟨rfl, rfl⟩ ?_ ?_ ?_
  · rintro s1 _ _ ⟨rfl, rfl⟩
    unfold s86_0 ms86_0
    refine okh_p (fun _ => rfl) ?_
    refine okh_if (fun h2 => ?_) (fun h2 => ?_)
    · refine okh_ix rfl fun x1 hx1 => ?_
      refine okh_p (fun _ => rfl) ?_
      refine okh_cv (mg := a1 x1) (E := (fun (t : Bool) => AV.bool t)) (fun S t ht => tc1 d (by omega) k1 k0 x1 S t ht) fun y1 hy1 => ?_
      refine okh_if (fun h1 => ?_) (fun h1 => ?_)
      · exact okh_lret 0 ⟨rfl, rfl⟩
      · refine okh_p (fun _ => rfl) ?_
        exact okh_norm 0 ⟨rfl, rfl⟩
    · exact okh_exit 0 ⟨rfl, rfl⟩
  · rintro i1 s2 _ _ ⟨rfl, rfl⟩
    refine okh_ite (fun _ => ?_) (fun _ => ?_)
    · exact okh_ret (cv_p rfl) rfl
    · exact okh_none
  · rintro s2 _ _ ⟨rfl, rfl⟩
    exact okh_ret (cv_p rfl) rfl
/- impl.Vote] -/
noncomputable def m49 (a0 : List TVote) (a1 : TVote → Option (Bool)) : Option (Bool) :=
  (m86 a0 a1).bind fun y1 =>
  some (decide (y1 ≥ 0))
theorem w49 {Dc : Nat} {d : Nat} (hd : Dc + 2 ≤ d) (k0 : Bool) (a0 : List TVote) (c1 : Bool → AV) (hc1 : ∀ l, CV 8 [] false (c1 l) c1) (a1 : TVote → Option (Bool)) (tc1 : ∀ (d : Nat), Dc ≤ d → ∀ (l : Bool) (q0 : Bool) (x0 : TVote) (S : St) (t : Bool), a1 x0 = some t → callV (cfg NN) (R NN d) 86 (c1 l) [.agg (Enc.cs q0 x0)] S = some ((fun (t : Bool) => AV.bool t) t, S)) (k1 : Bool) : Fit (R NN d 49 [.rsl k0 false (a0.map (Enc.cs k0)), c1 k1] []) (m49 a0 a1) (P0 (fun (t : Bool) => AV.bool t)) := by
  obtain ⟨d, rfl, g⟩ := up hd
  rw [t49]
  refine (?_ : Okh [] (fun S => b49 (cfg NN) (R NN d) (.rsl k0 false (a0.map (Enc.cs k0))) (c1 k1) S) _ _) [] HP.nil
  unfold b49 m49
  refine okh_c0 (mg := m86 a0 a1) (E := (fun (t : Int) => AV.int .i64 t)) (fun S hS => args2 (M := fun a => Fit (R NN d 86 a []) _ _) cv_r (CV.any (hc1 k1)) hS fun l0_ l1_ => w86 (by omega) l0_ a0 c1 hc1 a1 tc1 l1_) fun y1 hy1 => ?_
  refine okh_p (fun _ => rfl) ?_
  exact okh_ret (cv_p rfl) rfl
/- impl.many -/
noncomputable def m87 (a0 : Int) : Int :=
  wi .i64 ((wi .i64 (3 * a0)) + 1)
theorem w87 {d : Nat} (hd : 1 ≤ d) (a0 : Int) : Fit (R NN d 87 [.int .i64 a0] []) (some (m87 a0)) (P0 (fun (t : Int) => AV.int .i64 t)) := by
  obtain ⟨d, rfl, g⟩ := up hd
  rw [t87]
  refine (?_ : Okh [] (fun S => b87 (cfg NN) (R NN d) (.int .i64 a0) S) _ _) [] HP.nil
  unfold b87 m87
  refine okh_p (fun _ => rfl) ?_
  refine okh_p (fun _ => rfl) ?_
  exact okh_ret (cv_p rfl) rfl
/- impl.isReplica -/
noncomputable def m51 (a0 : Int) (a1 : Int) : Bool :=
  (m85 a1 1 (m87 a0))
theorem w51 {d : Nat} (hd : 2 ≤ d) (a0 : Int) (a1 : Int) : Fit (R NN d 51 [.int .i64 a0, .int .i64 a1] []) (some (m51 a0 a1)) (P0 (fun (t : Bool) => AV.bool t)) := by
  obtain ⟨d, rfl, g⟩ := up hd
  rw [t51]
  refine (?_ : Okh [] (fun S => b51 (cfg NN) (R NN d) (.int .i64 a0) (.int .i64 a1) S) _ _) [] HP.nil
  unfold b51 m51
  refine okh_c0t (y := m87 a0) (E := (fun (t : Int) => AV.int .i64 t)) (fun S hS => args1 (M := fun a => Fit (R NN d 87 a []) _ _) (cv_p rfl) hS fun l0_ => w87 (by omega) a0) ?_
  refine okh_c0t (y := m85 a1 1 (m87 a0)) (E := (fun (t : Bool) => AV.bool t)) (fun S hS => args3 (M := fun a => Fit (R NN d 85 a []) _ _) (cv_p rfl) (cv_p rfl) (cv_p rfl) hS fun l0_ l1_ l2_ => w85 (by omega) a1 1 (m87 a0)) ?_
  exact okh_ret (cv_p rfl) rfl
/- impl.isReply -/
noncomputable def m52 (a0 : TReply) : Option (Bool) :=
  (
    bif (m85 a0.Code 0 10) then
      bif (m85 a0.Value (-1) 9999) then
        some (LO.norm (decide ((a0.Path.length : Int) ≤ 24)))
      else
        some (LO.norm false)
    else
      some (LO.norm false)).bind (contO (fun s2 =>
    some s2) (fun i1 s2 =>
    none) (fun s2 =>
    some s2))
theorem w52 {d : Nat} (hd : 2 ≤ d) (k0 : Bool) (a0 : TReply) : Fit (R NN d 52 [.agg (Enc.cs k0 a0)] []) (m52 a0) (P0 (fun (t : Bool) => AV.bool t)) := by
  obtain ⟨d, rfl, g⟩ := up hd
  rw [t52]
  refine (?_ : Okh [] (fun S => b52 (cfg NN) (R NN d) (.agg (Enc.cs k0 a0)) S) _ _) [] HP.nil
  unfold b52 m52
  refine okh_box (n := 3) rfl rfl (by decide) fun b1 => ?_
  refine okh_cut (I := (fun (s : Bool) l L => l = [.bool s] ∧ L = [bx b1 [.int .i64 a0.Code, .int .i64 a0.Value, encS a0.Path]])) ?_ ?_ ?_ ?_
  · refine okh_p (fun _ => rfl) ?_
    refine okh_ld 0 rfl rfl ?_
    refine okh_c0t (y := m85 a0.Code 0 10) (E := (fun (t : Bool) => AV.bool t)) (fun S hS => args3 (M := fun a => Fit (R NN d 85 a []) _ _) (cv_p rfl) (cv_p rfl) (cv_p rfl) hS fun l0_ l1_ l2_ => w85 (by omega) a0.Code 0 10) ?_
    refine okh_gT (fun h2 => ?_) (fun h2 => ?_)
    · refine okh_p (fun _ => rfl) ?_
      refine okh_ld 0 rfl rfl ?_
      refine okh_c0t (y := m85 a0.Value (-1) 9999) (E := (fun (t : Bool) => AV.bool t)) (fun S hS => args3 (M := fun a => Fit (R NN d 85 a []) _ _) (cv_p rfl) (cv_p rfl) (cv_p rfl) hS fun l0_ l1_ l2_ => w85 (by omega) a0.Value (-1) 9999) ?_
      refine okh_gT (fun h1 => ?_) (fun h1 => ?_)
      · refine okh_p (fun _ => rfl) ?_
        refine okh_ld 0 rfl rfl ?_
        refine okh_slen ?_
        refine okh_p (fun _ => rfl) ?_
        exact okh_norm 0 ⟨rfl, rfl⟩
      · exact okh_norm 0 ⟨rfl, rfl⟩
    · exact okh_norm 0 ⟨rfl, rfl⟩
  · rintro s2 _ _ ⟨rfl, rfl⟩
    exact okh_ret (cv_p rfl) rfl
  · rintro i1 s2 _ _ ⟨rfl, rfl⟩
    exact okh_none
  · rintro s2 _ _ ⟨rfl, rfl⟩
    exact okh_ret (cv_p rfl) rfl
/- impl.VotesFault$1 -/
noncomputable def m50 (a0 : TVote) (a1 : Int) : Option (Bool) :=
  bif !(m51 a1 a0.From) then
    some true
  else
    (m52 a0.Reply).bind fun y1 =>
    some (!y1)
theorem w50 {d : Nat} (hd : 3 ≤ d) (k0 : Bool) (a0 : TVote) (k1 : Bool) (a1 : Int) : Fit (R NN d 50 [.agg (Enc.cs k0 a0), .rp k1 (Enc.cs k1 a1)] []) (m50 a0 a1) (P0 (fun (t : Bool) => AV.bool t)) := by
  obtain ⟨d, rfl, g⟩ := up hd
  rw [t50]
  refine (?_ : Okh [] (fun S => b50 (cfg NN) (R NN d) (.agg (Enc.cs k0 a0)) (.rp k1 (Enc.cs k1 a1)) S) _ _) [] HP.nil
  unfold b50 m50
  refine okh_box (n := 4) rfl rfl (by decide) fun b1 => ?_
  refine okh_p (fun _ => rfl) ?_
  refine okh_p (fun _ => rfl) ?_
  refine okh_ld 0 rfl rfl ?_
  refine okh_c0t (y := m51 a1 a0.From) (E := (fun (t : Bool) => AV.bool t)) (fun S hS => args2 (M := fun a => Fit (R NN d 51 a []) _ _) (cv_p rfl) (cv_p rfl) hS fun l0_ l1_ => w51 (by omega) a1 a0.From) ?_
  refine okh_p (fun _ => rfl) ?_
  refine okh_gF (fun h1 => ?_) (fun h1 => ?_)
  · exact okh_ret (cv_p rfl) rfl
  · refine okh_p (fun _ => rfl) ?_
    refine okh_lda 0 rfl rfl rfl ?_
    refine okh_c0 (mg := m52 a0.Reply) (E := (fun (t : Bool) => AV.bool t)) (fun S hS => args1 (M := fun a => Fit (R NN d 52 a []) _ _) (cv_a (cvs_e (l0 := false) (x := a0.Reply))) hS fun l0_ => w52 (by omega) l0_ a0.Reply) fun y1 hy1 => ?_
    refine okh_p (fun _ => rfl) ?_
    exact okh_ret (cv_p rfl) rfl
/- impl.VotesFault -/
noncomputable def m11 (a0 : Int) (a1 : List TVote) : Option (Int) :=
  bif !(m48 a0) then
    some 3
  else
    bif decide ((a1.length : Int) > 40) then
      some 2
    else
      (m49 a1 (fun x0_ => m50 x0_ a0)).bind fun y1 =>
      bif y1 then
        some 3
      else
        some 0
theorem w11 {d : Nat} (hd : 6 ≤ d) (a0 : Int) (k1 : Bool) (a1 : List TVote) : Fit (R NN d 11 [.int .i64 a0, .rsl k1 false (a1.map (Enc.cs k1))] []) (m11 a0 a1) (P0 (fun (t : Int) => AV.int .i64 t)) := by
  obtain ⟨d, rfl, g⟩ := up hd
  rw [t11]
  refine (?_ : Okh [] (fun S => b11 (cfg NN) (R NN d) (.int .i64 a0) (.rsl k1 false (a1.map (Enc.cs k1))) S) _ _) [] HP.nil
  unfold b11 m11
  refine okh_box (n := 1) rfl rfl (by decide) fun b1 => ?_
  refine okh_ld 0 rfl rfl ?_
  refine okh_c0t (y := m48 a0) (E := (fun (t : Bool) => AV.bool t)) (fun S hS => args1 (M := fun a => Fit (R NN d 48 a []) _ _) (cv_p rfl) hS fun l0_ => w48 (by omega) a0) ?_
  refine okh_p (fun _ => rfl) ?_
  refine okh_if (fun h3 => ?_) (fun h3 => ?_)
  · exact okh_ret (cv_p rfl) rfl
  · refine okh_len ?_
    refine okh_p (fun _ => rfl) ?_
    refine okh_if (fun h2 => ?_) (fun h2 => ?_)
    · exact okh_ret (cv_p rfl) rfl
    · refine okh_c0 (mg := m49 a1 (fun x0_ => m50 x0_ a0)) (E := (fun (t : Bool) => AV.bool t)) (fun S hS => args2 (M := fun a => Fit (R NN d 49 a []) _ _) cv_r (cv_f (cvs_cons (cv_b 0 rfl (cvs_e (l0 := false) (x := a0))) cvs_nil)) hS fun l0_ l1_ => w49 (Dc := 3) (by omega) l0_ a1 (fun l => .fn 50 [.rp l (Enc.cs l a0)]) (fun l => cv_f (cvs_cons (cv_rp (cvs_e (x := a0)) (fun _ _ _ h => Enc.frz _ a0 _ _ _ h)) cvs_nil)) (fun x0_ => m50 x0_ a0) (fun d hd l q0_ x0_ S t ht => (cv86_50 _ _ _ _).trans (call0_of (E := (fun (t : Bool) => AV.bool t)) (mg := m50 x0_ a0) (args2 (M := fun a => Fit (R NN d 50 a []) _ _) (cv_a (cvs_e (l0 := q0_) (x := x0_))) (cv_rp (cvs_e (l0 := l) (x := a0)) (fun _ _ _ h => Enc.frz _ a0 _ _ _ h)) HP.nil fun u0_ v0_ => w50 hd u0_ x0_ v0_ a0) ht)) l1_) fun y1 hy1 => ?_
      refine okh_if (fun h1 => ?_) (fun h1 => ?_)
      · exact okh_ret (cv_p rfl) rfl
      · exact okh_ret (cv_p rfl) rfl
/- cmp.isNaN[int64] -/
noncomputable def m155 (a0 : Int) : Bool :=
  a0 != a0
theorem w155 {d : Nat} (hd : 1 ≤ d) (a0 : Int) : Fit (R NN d 155 [.int .i64 a0] []) (some (m155 a0)) (P0 (fun (t : Bool) => AV.bool t)) := by
  obtain ⟨d, rfl, g⟩ := up hd
  rw [t155]
  refine (?_ : Okh [] (fun S => b155 (cfg NN) (R NN d) (.int .i64 a0) S) _ _) [] HP.nil
  unfold b155 m155
  refine okh_p (fun _ => rfl) ?_
  exact okh_ret (cv_p rfl) rfl
/- cmp.Less[int64] -/
noncomputable def m144 (a0 : Int) (a1 : Int) : Option (Bool) :=
  (
    bif (m155 a0) then
      bif !(m155 a1) then
        some (LO.norm true)
      else
        some (LO.norm (decide (a0 < a1)))
    else
      some (LO.norm (decide (a0 < a1)))).bind (contO (fun s2 =>
    some s2) (fun i1 s2 =>
    none) (fun s2 =>
    some s2))
theorem w144 {d : Nat} (hd : 2 ≤ d) (a0 : Int) (a1 : Int) : Fit (R NN d 144 [.int .i64 a0, .int .i64 a1] []) (m144 a0 a1) (P0 (fun (t : Bool) => AV.bool t)) := by
  obtain ⟨d, rfl, g⟩ := up hd
  rw [t144]
  refine (?_ : Okh [] (fun S => b144 (cfg NN) (R NN d) (.int .i64 a0) (.int .i64 a1) S) _ _) [] HP.nil
  unfold b144 m144
  refine okh_cut (I := (fun (s : Bool) l L => l = [.bool s] ∧ L = [])) ?_ ?_ ?_ ?_
  · refine okh_c0t (y := m155 a0) (E := (fun (t : Bool) => AV.bool t)) (fun S hS => args1 (M := fun a => Fit (R NN d 155 a []) _ _) (cv_p rfl) hS fun l0_ => w155 (by omega) a0) ?_
    refine okh_gT (fun h2 => ?_) (fun h2 => ?_)
    · refine okh_c0t (y := m155 a1) (E := (fun (t : Bool) => AV.bool t)) (fun S hS => args1 (M := fun a => Fit (R NN d 155 a []) _ _) (cv_p rfl) hS fun l0_ => w155 (by omega) a1) ?_
      refine okh_p (fun _ => rfl) ?_
      refine okh_gF (fun h1 => ?_) (fun h1 => ?_)
      · exact okh_norm 0 ⟨rfl, rfl⟩
      · refine okh_p (fun _ => rfl) ?_
        exact okh_norm 0 ⟨rfl, rfl⟩
    · refine okh_p (fun _ => rfl) ?_
      exact okh_norm 0 ⟨rfl, rfl⟩
  · rintro s2 _ _ ⟨rfl, rfl⟩
    exact okh_ret (cv_p rfl) rfl
  · rintro i1 s2 _ _ ⟨rfl, rfl⟩
    exact okh_none
  · rintro s2 _ _ ⟨rfl, rfl⟩
    exact okh_ret (cv_p rfl) rfl
/- slices.insertionSortOrdered[int64] -/
noncomputable def ms138_0 (a1 : Int) (s2 : Int × (List Int)) : Option (LO (Int × (List Int))) :=
  (
    (
      bif decide (s2.1 > a1) then
        (getI s2.2 s2.1).bind fun x1 =>
        (getI s2.2 (wi .i64 (s2.1 - 1))).bind fun x2 =>
        (m144 x1 x2).bind fun y1 =>
        some (LO.norm y1)
      else
        some (LO.norm false)).bind (contO (fun s5 =>
      bif s5 then
        some (LO.norm s5)
      else
        some (LO.exit 2 s5)) (fun i1 s5 =>
      some (LO.exit i1 s5)) (fun s5 =>
      some (LO.ret s5)))).bind (contO (fun s6 =>
    (getI s2.2 (wi .i64 (s2.1 - 1))).bind fun x3 =>
    (getI s2.2 s2.1).bind fun x4 =>
    (getI s2.2 s2.1).bind fun x5 =>
    (getI (s2.2.set (Int.toNat s2.1) x3) (wi .i64 (s2.1 - 1))).bind fun x6 =>
    some (LO.norm (wi .i64 (s2.1 - 1), (s2.2.set (Int.toNat s2.1) x3).set (Int.toNat (wi .i64 (s2.1 - 1))) x4))) (fun i2 s6 =>
    some (LO.exit i2 (s2.1, s2.2))) (fun s6 =>
    some (LO.ret (s2.1, s2.2))))
noncomputable def ms138_1 (a1 : Int) (a2 : Int) (s1 : Int × (List Int)) : Option (LO (Int × (List Int))) :=
  bif decide (s1.1 < a2) then
    (loopO (ms138_0 a1) NN (s1.1, s1.2)).bind (contO (fun _ => none) (fun i3 s7 =>
      if i3 = 2 then
        some (LO.norm (wi .i64 (s1.1 + 1), s7.2))
      else
        if i3 = 1 then
          some (LO.norm (wi .i64 (s1.1 + 1), s7.2))
        else
          some (LO.exit i3 (s1.1, s7.2))) (fun s7 =>
      some (LO.ret (s1.1, s7.2))))
  else
    some (LO.exit 0 (s1.1, s1.2))
noncomputable def m138 (a0 : List Int) (a1 : Int) (a2 : Int) : Option ((List Int)) :=
  (loopO (ms138_1 a1 a2) NN (wi .i64 (a1 + 1), a0)).bind (contO (fun _ => none) (fun i4 s8 =>
    if i4 = 0 then
      some s8.2
    else
      none) (fun s8 =>
    some s8.2))
theorem w138 {d : Nat} (hd : 3 ≤ d) (L0 : List En) (v0_ : AV) (a0 : List Int) (a1 : Int) (a2 : Int) : Okh (sl false v0_ (a0 : List Int) :: L0) (fun S => R NN d 138 [v0_, .int .i64 a1, .int .i64 a2] S) (m138 a0 a1 a2) (P2 (fun (t : (List Int)) => und) (fun (t : (List Int)) => sl false v0_ t :: L0)) := by
  obtain ⟨d, rfl, g⟩ := up hd
  rw [show (fun S => R NN (d + 1) 138 [v0_, .int .i64 a1, .int .i64 a2] S) = fun S => b138 (cfg NN) (R NN d) (v0_) (.int .i64 a1) (.int .i64 a2) S from funext fun S => t138 NN d v0_ (.int .i64 a1) (.int .i64 a2) S]
  unfold b138 m138
  refine okh_p (fun _ => rfl) ?_
  refine okh_loop (I := (fun (s : Int × (List Int)) l L => l = [.int .i64 s.1] ∧ L = sl false v0_ (s.2 : List Int) :: L0)) 0 ⟨rfl, rfl⟩ ?_ ?_ ?_
  · rintro s1 _ _ ⟨rfl, rfl⟩
    unfold s138_1 ms138_1
    refine okh_p (fun _ => rfl) ?_
    refine okh_if (fun h3 => ?_) (fun h3 => ?_)
    · refine okh_loop (I := (fun (s : Int × (List Int)) l L => l = [.int .i64 s.1] ∧ L = sl false v0_ (s.2 : List Int) :: L0)) 0 ⟨rfl, rfl⟩ ?_ ?_ ?_
      · rintro s2 _ _ ⟨rfl, rfl⟩
        unfold s138_0 ms138_0
        refine okh_cut (I := (fun (s : Bool) l L => l = [.bool s] ∧ L = sl false v0_ (s2.2 : List Int) :: L0)) ?_ ?_ ?_ ?_
        · refine okh_cut (I := (fun (s : Bool) l L => l = [.bool s] ∧ L = sl false v0_ (s2.2 : List Int) :: L0)) ?_ ?_ ?_ ?_
          · refine okh_p (fun _ => rfl) ?_
            refine okh_gT (fun h1 => ?_) (fun h1 => ?_)
            · refine okh_ixo 0 rfl rfl fun x1 hx1 => ?_
              refine okh_ldo 0 rfl hx1 rfl ?_
              refine okh_p (fun _ => rfl) ?_
              refine okh_ixo 0 rfl rfl fun x2 hx2 => ?_
              refine okh_ldo 0 rfl hx2 rfl ?_
              refine okh_c0 (mg := m144 x1 x2) (E := (fun (t : Bool) => AV.bool t)) (fun S hS => args2 (M := fun a => Fit (R NN d 144 a []) _ _) (cv_p rfl) (cv_p rfl) hS fun l0_ l1_ => w144 (by omega) x1 x2) fun y1 hy1 => ?_
              exact okh_norm 0 ⟨rfl, rfl⟩
            · exact okh_norm 0 ⟨rfl, rfl⟩
          · rintro s5 _ _ ⟨rfl, rfl⟩
            refine okh_if (fun h2 => ?_) (fun h2 => ?_)
            · exact okh_norm 0 ⟨rfl, rfl⟩
            · exact okh_exit 0 ⟨rfl, rfl⟩
          · rintro i1 s5 _ _ ⟨rfl, rfl⟩
            exact okh_exit 0 ⟨rfl, rfl⟩
          · rintro s5 _ _ ⟨rfl, rfl⟩
            exact okh_lret 0 ⟨rfl, rfl⟩
        · rintro s6 _ _ ⟨rfl, rfl⟩
          refine okh_p (fun _ => rfl) ?_
          refine okh_p (fun _ => rfl) ?_
          refine okh_ixo 0 rfl rfl fun x3 hx3 => ?_
          refine okh_ldo 0 rfl hx3 rfl ?_
          refine okh_ixo 0 rfl rfl fun x4 hx4 => ?_
          refine okh_ldo 0 rfl hx4 rfl ?_
          refine okh_ixo 0 rfl rfl fun x5 hx5 => ?_
          refine okh_stoe (y := x3) 0 rfl rfl hx5 rfl (by decide) ?_
          refine okh_ixo 0 rfl rfl fun x6 hx6 => ?_
          refine okh_stoe (y := x4) 0 rfl rfl hx6 rfl (by decide) ?_
          refine okh_p (fun _ => rfl) ?_
          exact okh_norm 0 ⟨rfl, rfl⟩
        · rintro i2 s6 _ _ ⟨rfl, rfl⟩
          exact okh_exit 0 ⟨rfl, rfl⟩
        · rintro s6 _ _ ⟨rfl, rfl⟩
          exact okh_lret 0 ⟨rfl, rfl⟩
      · rintro i3 s7 _ _ ⟨rfl, rfl⟩
        refine okh_ite (fun _ => ?_) (fun _ => ?_)
        · refine okh_p (fun _ => rfl) ?_
          exact okh_norm 0 ⟨rfl, rfl⟩
        · refine okh_ite (fun _ => ?_) (fun _ => ?_)
          · refine okh_p (fun _ => rfl) ?_
            exact okh_norm 0 ⟨rfl, rfl⟩
          · exact okh_exit 0 ⟨rfl, rfl⟩
      · rintro s7 _ _ ⟨rfl, rfl⟩
        exact okh_lret 0 ⟨rfl, rfl⟩
    · exact okh_exit 0 ⟨rfl, rfl⟩
  · rintro i4 s8 _ _ ⟨rfl, rfl⟩
    refine okh_ite (fun _ => ?_) (fun _ => ?_)
    · exact okh_ret2 0 rfl rfl
    · exact okh_none
  · rintro s8 _ _ ⟨rfl, rfl⟩
    exact okh_ret2 0 rfl rfl
/- slices.siftDownOrdered[int64] -/
noncomputable def ms150_0 (a2 : Int) (a3 : Int) (s1 : Int × (List Int)) : Option (LO (Int × (List Int))) :=
  bif decide ((wi .i64 ((wi .i64 (2 * s1.1)) + 1)) ≥ a2) then
    some (LO.exit 0 (s1.1, s1.2))
  else
    (
      bif decide ((wi .i64 ((wi .i64 ((wi .i64 (2 * s1.1)) + 1)) + 1)) < a2) then
        (getI s1.2 (wi .i64 (a3 + (wi .i64 ((wi .i64 (2 * s1.1)) + 1))))).bind fun x1 =>
        (getI s1.2 (wi .i64 ((wi .i64 (a3 + (wi .i64 ((wi .i64 (2 * s1.1)) + 1)))) + 1))).bind fun x2 =>
        (m144 x1 x2).bind fun y1 =>
        bif y1 then
          some (LO.norm (wi .i64 ((wi .i64 ((wi .i64 (2 * s1.1)) + 1)) + 1)))
        else
          some (LO.norm (wi .i64 ((wi .i64 (2 * s1.1)) + 1)))
      else
        some (LO.norm (wi .i64 ((wi .i64 (2 * s1.1)) + 1)))).bind (contO (fun s3 =>
      (getI s1.2 (wi .i64 (a3 + s1.1))).bind fun x3 =>
      (getI s1.2 (wi .i64 (a3 + s3))).bind fun x4 =>
      (m144 x3 x4).bind fun y2 =>
      bif !y2 then
        some (LO.ret (s1.1, s1.2))
      else
        (getI s1.2 (wi .i64 (a3 + s3))).bind fun x5 =>
        (getI s1.2 (wi .i64 (a3 + s1.1))).bind fun x6 =>
        (getI s1.2 (wi .i64 (a3 + s1.1))).bind fun x7 =>
        (getI (s1.2.set (Int.toNat (wi .i64 (a3 + s1.1))) x5) (wi .i64 (a3 + s3))).bind fun x8 =>
        some (LO.norm (s3, (s1.2.set (Int.toNat (wi .i64 (a3 + s1.1))) x5).set (Int.toNat (wi .i64 (a3 + s3))) x6))) (fun i1 s3 =>
      if i1 = 1 then
        some (LO.norm (s1.1, s1.2))
      else
        some (LO.exit i1 (s1.1, s1.2))) (fun s3 =>
      some (LO.ret (s1.1, s1.2))))
noncomputable def m150 (a0 : List Int) (a1 : Int) (a2 : Int) (a3 : Int) : Option ((List Int)) :=
  (loopO (ms150_0 a2 a3) NN (a1, a0)).bind (contO (fun _ => none) (fun i2 s4 =>
    if i2 = 0 then
      some s4.2
    else
      none) (fun s4 =>
    some s4.2))
theorem w150 {d : Nat} (hd : 3 ≤ d) (L0 : List En) (v0_ : AV) (a0 : List Int) (a1 : Int) (a2 : Int) (a3 : Int) : Okh (sl false v0_ (a0 : List Int) :: L0) (fun S => R NN d 150 [v0_, .int .i64 a1, .int .i64 a2, .int .i64 a3] S) (m150 a0 a1 a2 a3) (P2 (fun (t : (List Int)) => und) (fun (t : (List Int)) => sl false v0_ t :: L0)) := by
  obtain ⟨d, rfl, g⟩ := up hd
  rw [show (fun S => R NN (d + 1) 150 [v0_, .int .i64 a1, .int .i64 a2, .int .i64 a3] S) = fun S => b150 (cfg NN) (R NN d) (v0_) (.int .i64 a1) (.int .i64 a2) (.int .i64 a3) S from funext fun S => t150 NN d v0_ (.int .i64 a1) (.int .i64 a2) (.int .i64 a3) S]
  unfold b150 m150
  refine okh_loop (I := (fun (s : Int × (List Int)) l L => l = [.int .i64 s.1] ∧ L = sl false v0_ (s.2 : List Int) :: L0)) 0 ⟨rfl, rfl⟩ ?_ ?_ ?_
  · rintro s1 _ _ ⟨rfl, rfl⟩
    unfold s150_0 ms150_0
    refine okh_p (fun _ => rfl) ?_
    refine okh_p (fun _ => rfl) ?_
    refine okh_p (fun _ => rfl) ?_
    refine okh_if (fun h4 => ?_) (fun h4 => ?_)
    · exact okh_exit 0 ⟨rfl, rfl⟩
    · refine okh_cut (I := (fun (s : Int) l L => l = [.int .i64 s] ∧ L = sl false v0_ (s1.2 : List Int) :: L0)) ?_ ?_ ?_ ?_
      · refine okh_p (fun _ => rfl) ?_
        refine okh_p (fun _ => rfl) ?_
        refine okh_gT (fun h2 => ?_) (fun h2 => ?_)
        · refine okh_p (fun _ => rfl) ?_
          refine okh_ixo 0 rfl rfl fun x1 hx1 => ?_
          refine okh_ldo 0 rfl hx1 rfl ?_
          refine okh_p (fun _ => rfl) ?_
          refine okh_p (fun _ => rfl) ?_
          refine okh_ixo 0 rfl rfl fun x2 hx2 => ?_
          refine okh_ldo 0 rfl hx2 rfl ?_
          refine okh_c0 (mg := m144 x1 x2) (E := (fun (t : Bool) => AV.bool t)) (fun S hS => args2 (M := fun a => Fit (R NN d 144 a []) _ _) (cv_p rfl) (cv_p rfl) hS fun l0_ l1_ => w144 (by omega) x1 x2) fun y1 hy1 => ?_
          refine okh_if (fun h1 => ?_) (fun h1 => ?_)
          · refine okh_p (fun _ => rfl) ?_
            exact okh_norm 0 ⟨rfl, rfl⟩
          · exact okh_norm 0 ⟨rfl, rfl⟩
        · exact okh_norm 0 ⟨rfl, rfl⟩
      · rintro s3 _ _ ⟨rfl, rfl⟩
        refine okh_p (fun _ => rfl) ?_
        refine okh_ixo 0 rfl rfl fun x3 hx3 => ?_
        refine okh_ldo 0 rfl hx3 rfl ?_
        refine okh_p (fun _ => rfl) ?_
        refine okh_ixo 0 rfl rfl fun x4 hx4 => ?_
        refine okh_ldo 0 rfl hx4 rfl ?_
        refine okh_c0 (mg := m144 x3 x4) (E := (fun (t : Bool) => AV.bool t)) (fun S hS => args2 (M := fun a => Fit (R NN d 144 a []) _ _) (cv_p rfl) (cv_p rfl) hS fun l0_ l1_ => w144 (by omega) x3 x4) fun y2 hy2 => ?_
        refine okh_p (fun _ => rfl) ?_
        refine okh_if (fun h3 => ?_) (fun h3 => ?_)
        · exact okh_lret 0 ⟨rfl, rfl⟩
        · refine okh_p (fun _ => rfl) ?_
          refine okh_p (fun _ => rfl) ?_
          refine okh_p (fun _ => rfl) ?_
          refine okh_ixo 0 rfl rfl fun x5 hx5 => ?_
          refine okh_ldo 0 rfl hx5 rfl ?_
          refine okh_p (fun _ => rfl) ?_
          refine okh_ixo 0 rfl rfl fun x6 hx6 => ?_
          refine okh_ldo 0 rfl hx6 rfl ?_
          refine okh_ixo 0 rfl rfl fun x7 hx7 => ?_
          refine okh_stoe (y := x5) 0 rfl rfl hx7 rfl (by decide) ?_
          refine okh_ixo 0 rfl rfl fun x8 hx8 => ?_
          refine okh_stoe (y := x6) 0 rfl rfl hx8 rfl (by decide) ?_
          exact okh_norm 0 ⟨rfl, rfl⟩
      · rintro i1 s3 _ _ ⟨rfl, rfl⟩
        refine okh_ite (fun _ => ?_) (fun _ => ?_)
        · exact okh_norm 0 ⟨rfl, rfl⟩
        · exact okh_exit 0 ⟨rfl, rfl⟩
      · rintro s3 _ _ ⟨rfl, rfl⟩
        exact okh_lret 0 ⟨rfl, rfl⟩
  · rintro i2 s4 _ _ ⟨rfl, rfl⟩
    refine okh_ite (fun _ => ?_) (fun _ => ?_)
    · exact okh_ret2 0 rfl rfl
    · exact okh_none
  · rintro s4 _ _ ⟨rfl, rfl⟩
    exact okh_ret2 0 rfl rfl
/- slices.heapSortOrdered[int64] -/
noncomputable def ms139_0 (a1 : Int) (a2 : Int) (s1 : Int × (List Int)) : Option (LO (Int × (List Int))) :=
  bif decide (s1.1 ≥ 0) then
    (m150 s1.2 s1.1 (wi .i64 (a2 - a1)) a1).bind fun y1 =>
    some (LO.norm (wi .i64 (s1.1 - 1), y1))
  else
    some (LO.exit 0 (s1.1, s1.2))
noncomputable def ms139_1 (a1 : Int) (s3 : Int × (List Int)) : Option (LO (Int × (List Int))) :=
  bif decide (s3.1 ≥ 0) then
    (getI s3.2 (wi .i64 (a1 + s3.1))).bind fun x1 =>
    (getI s3.2 a1).bind fun x2 =>
    (getI s3.2 a1).bind fun x3 =>
    (getI (s3.2.set (Int.toNat a1) x1) (wi .i64 (a1 + s3.1))).bind fun x4 =>
    (m150 ((s3.2.set (Int.toNat a1) x1).set (Int.toNat (wi .i64 (a1 + s3.1))) x2) 0 s3.1 a1).bind fun y2 =>
    some (LO.norm (wi .i64 (s3.1 - 1), y2))
  else
    some (LO.exit 2 (s3.1, s3.2))
noncomputable def m139 (a0 : List Int) (a1 : Int) (a2 : Int) : Option ((List Int)) :=
  (loopO (ms139_0 a1 a2) NN (wi .i64 (Int.tdiv (wi .i64 ((wi .i64 (a2 - a1)) - 1)) 2), a0)).bind (contO (fun _ => none) (fun i1 s2 =>
    if i1 = 0 then
      (loopO (ms139_1 a1) NN (wi .i64 ((wi .i64 (a2 - a1)) - 1), s2.2)).bind (contO (fun _ => none) (fun i2 s4 =>
        if i2 = 2 then
          some s4.2
        else
          none) (fun s4 =>
        some s4.2))
    else
      none) (fun s2 =>
    some s2.2))
theorem w139 {d : Nat} (hd : 4 ≤ d) (L0 : List En) (v0_ : AV) (a0 : List Int) (a1 : Int) (a2 : Int) : Okh (sl false v0_ (a0 : List Int) :: L0) (fun S => R NN d 139 [v0_, .int .i64 a1, .int .i64 a2] S) (m139 a0 a1 a2) (P2 (fun (t : (List Int)) => und) (fun (t : (List Int)) => sl false v0_ t :: L0)) := by
  obtain ⟨d, rfl, g⟩ := up hd
  rw [show (fun S => R NN (d + 1) 139 [v0_, .int .i64 a1, .int .i64 a2] S) = fun S => b139 (cfg NN) (R NN d) (v0_) (.int .i64 a1) (.int .i64 a2) S from funext fun S => t139 NN d v0_ (.int .i64 a1) (.int .i64 a2) S]
  unfold b139 m139
  refine okh_p (fun _ => rfl) ?_
  refine okh_p (fun _ => rfl) ?_
  refine okh_p (fun _ => rfl) ?_
  refine okh_loop (I := (fun (s : Int × (List Int)) l L => l = [.int .i64 s.1] ∧ L = sl false v0_ (s.2 : List Int) :: L0)) 0 ⟨rfl, rfl⟩ ?_ ?_ ?_
  · rintro s1 _ _ ⟨rfl, rfl⟩
    unfold s139_0 ms139_0
    refine okh_p (fun _ => rfl) ?_
    refine okh_if (fun h1 => ?_) (fun h1 => ?_)
    · refine okh_s (mg := m150 s1.2 s1.1 (wi .i64 (a2 - a1)) a1) (w150 (by omega) _ _ s1.2 s1.1 (wi .i64 (a2 - a1)) a1) fun y1 hy1 => ?_
      refine okh_p (fun _ => rfl) ?_
      exact okh_norm 0 ⟨rfl, rfl⟩
    · exact okh_exit 0 ⟨rfl, rfl⟩
  · rintro i1 s2 _ _ ⟨rfl, rfl⟩
    refine okh_ite (fun _ => ?_) (fun _ => ?_)
    · refine okh_p (fun _ => rfl) ?_
      refine okh_loop (I := (fun (s : Int × (List Int)) l L => l = [.int .i64 s.1] ∧ L = sl false v0_ (s.2 : List Int) :: L0)) 0 ⟨rfl, rfl⟩ ?_ ?_ ?_
      · rintro s3 _ _ ⟨rfl, rfl⟩
        unfold s139_1 ms139_1
        refine okh_p (fun _ => rfl) ?_
        refine okh_if (fun h2 => ?_) (fun h2 => ?_)
        · refine okh_p (fun _ => rfl) ?_
          refine okh_p (fun _ => rfl) ?_
          refine okh_ixo 0 rfl rfl fun x1 hx1 => ?_
          refine okh_ldo 0 rfl hx1 rfl ?_
          refine okh_ixo 0 rfl rfl fun x2 hx2 => ?_
          refine okh_ldo 0 rfl hx2 rfl ?_
          refine okh_ixo 0 rfl rfl fun x3 hx3 => ?_
          refine okh_stoe (y := x1) 0 rfl rfl hx3 rfl (by decide) ?_
          refine okh_ixo 0 rfl rfl fun x4 hx4 => ?_
          refine okh_stoe (y := x2) 0 rfl rfl hx4 rfl (by decide) ?_
          refine okh_s (mg := m150 ((s3.2.set (Int.toNat a1) x1).set (Int.toNat (wi .i64 (a1 + s3.1))) x2) 0 s3.1 a1) (w150 (by omega) _ _ ((s3.2.set (Int.toNat a1) x1).set (Int.toNat (wi .i64 (a1 + s3.1))) x2) 0 s3.1 a1) fun y2 hy2 => ?_
          refine okh_p (fun _ => rfl) ?_
          exact okh_norm 0 ⟨rfl, rfl⟩
        · exact okh_exit 0 ⟨rfl, rfl⟩
      · rintro i2 s4 _ _ ⟨rfl, rfl⟩
        refine okh_ite (fun _ => ?_) (fun _ => ?_)
        · exact okh_ret2 0 rfl rfl
        · exact okh_none
      · rintro s4 _ _ ⟨rfl, rfl⟩
        exact okh_ret2 0 rfl rfl
    · exact okh_none
  · rintro s2 _ _ ⟨rfl, rfl⟩
    exact okh_ret2 0 rfl rfl
/- math/bits.Len32 -/
noncomputable def m147 (a0 : Int) : Option (Int) :=
  (
    bif decide (a0 ≥ 65536) then
      some (LO.norm (shrI .u32 a0 16, 16))
    else
      some (LO.norm (a0, 0))).bind (contO (fun s2 =>
    (
      bif decide (s2.1 ≥ 256) then
        some (LO.norm (shrI .u32 s2.1 8, wi .i64 (s2.2 + 8)))
      else
        some (LO.norm (s2.1, s2.2))).bind (contO (fun s4 =>
      (getI ([0, 1, 2, 2, 3, 3, 3, 3, 4, 4, 4, 4, 4, 4, 4, 4, 5, 5, 5, 5, 5, 5, 5, 5, 5, 5, 5, 5, 5, 5, 5, 5, 6, 6, 6, 6, 6, 6, 6, 6, 6, 6, 6, 6, 6, 6, 6, 6, 6, 6, 6, 6, 6, 6, 6, 6, 6, 6, 6, 6, 6, 6, 6, 6, 7, 7, 7, 7, 7, 7, 7, 7, 7, 7, 7, 7, 7, 7, 7, 7, 7, 7, 7, 7, 7, 7, 7, 7, 7, 7, 7, 7, 7, 7, 7, 7, 7, 7, 7, 7, 7, 7, 7, 7, 7, 7, 7, 7, 7, 7, 7, 7, 7, 7, 7, 7, 7, 7, 7, 7, 7, 7, 7, 7, 7, 7, 7, 7, 8, 8, 8, 8, 8, 8, 8, 8, 8, 8, 8, 8, 8, 8, 8, 8, 8, 8, 8, 8, 8, 8, 8, 8, 8, 8, 8, 8, 8, 8, 8, 8, 8, 8, 8, 8, 8, 8, 8, 8, 8, 8, 8, 8, 8, 8, 8, 8, 8, 8, 8, 8, 8, 8, 8, 8, 8, 8, 8, 8, 8, 8, 8, 8, 8, 8, 8, 8, 8, 8, 8, 8, 8, 8, 8, 8, 8, 8, 8, 8, 8, 8, 8, 8, 8, 8, 8, 8, 8, 8, 8, 8, 8, 8, 8, 8, 8, 8, 8, 8, 8, 8, 8, 8, 8, 8, 8, 8, 8, 8, 8, 8, 8, 8, 8, 8, 8, 8, 8, 8, 8, 8, 8, 8, 8, 8, 8, 8] : Str) (wi .u8 s4.1)).bind fun c1 =>
      some (wi .i64 (s4.2 + (wi .i64 (c1.toNat : Int))))) (fun i2 s4 =>
      none) (fun s4 =>
      some s4.2))) (fun i1 s2 =>
    none) (fun s2 =>
    some s2.2))
theorem w147 {d : Nat} (hd : 1 ≤ d) (a0 : Int) : Fit (R NN d 147 [.int .u32 a0] []) (m147 a0) (P0 (fun (t : Int) => AV.int .i64 t)) := by
  obtain ⟨d, rfl, g⟩ := up hd
  rw [t147]
  refine (?_ : Okh [] (fun S => b147 (cfg NN) (R NN d) (.int .u32 a0) S) _ _) [] HP.nil
  unfold b147 m147
  refine okh_cut (I := (fun (s : Int × Int) l L => l = [.int .u32 s.1, .int .i64 s.2] ∧ L = [])) ?_ ?_ ?_ ?_
  · refine okh_p (fun _ => rfl) ?_
    refine okh_if (fun h1 => ?_) (fun h1 => ?_)
    · refine okh_p (fun _ => rfl) ?_
      exact okh_norm 0 ⟨rfl, rfl⟩
    · exact okh_norm 0 ⟨rfl, rfl⟩
  · rintro s2 _ _ ⟨rfl, rfl⟩
    refine okh_cut (I := (fun (s : Int × Int) l L => l = [.int .u32 s.1, .int .i64 s.2] ∧ L = [])) ?_ ?_ ?_ ?_
    · refine okh_p (fun _ => rfl) ?_
      refine okh_if (fun h2 => ?_) (fun h2 => ?_)
      · refine okh_p (fun _ => rfl) ?_
        refine okh_p (fun _ => rfl) ?_
        exact okh_norm 0 ⟨rfl, rfl⟩
      · exact okh_norm 0 ⟨rfl, rfl⟩
    · rintro s4 _ _ ⟨rfl, rfl⟩
      refine okh_p (fun _ => cvt169_5 _ _) ?_
      refine okh_sx fun c1 hc1 => ?_
      refine okh_p (fun _ => cvt5_3 _ _) ?_
      refine okh_p (fun _ => rfl) ?_
      exact okh_ret (cv_p rfl) rfl
    · rintro i2 s4 _ _ ⟨rfl, rfl⟩
      exact okh_none
    · rintro s4 _ _ ⟨rfl, rfl⟩
      exact okh_ret (cv_p rfl) rfl
  · rintro i1 s2 _ _ ⟨rfl, rfl⟩
    exact okh_none
  · rintro s2 _ _ ⟨rfl, rfl⟩
    exact okh_ret (cv_p rfl) rfl
/- math/bits.Len64 -/
noncomputable def m148 (a0 : Int) : Option (Int) :=
  (
    bif decide (a0 ≥ 4294967296) then
      some (LO.norm (shrI .u64 a0 32, 32))
    else
      some (LO.norm (a0, 0))).bind (contO (fun s2 =>
    (
      bif decide (s2.1 ≥ 65536) then
        some (LO.norm (shrI .u64 s2.1 16, wi .i64 (s2.2 + 16)))
      else
        some (LO.norm (s2.1, s2.2))).bind (contO (fun s4 =>
      (
        bif decide (s4.1 ≥ 256) then
          some (LO.norm (shrI .u64 s4.1 8, wi .i64 (s4.2 + 8)))
        else
          some (LO.norm (s4.1, s4.2))).bind (contO (fun s6 =>
        (getI ([0, 1, 2, 2, 3, 3, 3, 3, 4, 4, 4, 4, 4, 4, 4, 4, 5, 5, 5, 5, 5, 5, 5, 5, 5, 5, 5, 5, 5, 5, 5, 5, 6, 6, 6, 6, 6, 6, 6, 6, 6, 6, 6, 6, 6, 6, 6, 6, 6, 6, 6, 6, 6, 6, 6, 6, 6, 6, 6, 6, 6, 6, 6, 6, 7, 7, 7, 7, 7, 7, 7, 7, 7, 7, 7, 7, 7, 7, 7, 7, 7, 7, 7, 7, 7, 7, 7, 7, 7, 7, 7, 7, 7, 7, 7, 7, 7, 7, 7, 7, 7, 7, 7, 7, 7, 7, 7, 7, 7, 7, 7, 7, 7, 7, 7, 7, 7, 7, 7, 7, 7, 7, 7, 7, 7, 7, 7, 7, 8, 8, 8, 8, 8, 8, 8, 8, 8, 8, 8, 8, 8, 8, 8, 8, 8, 8, 8, 8, 8, 8, 8, 8, 8, 8, 8, 8, 8, 8, 8, 8, 8, 8, 8, 8, 8, 8, 8, 8, 8, 8, 8, 8, 8, 8, 8, 8, 8, 8, 8, 8, 8, 8, 8, 8, 8, 8, 8, 8, 8, 8, 8, 8, 8, 8, 8, 8, 8, 8, 8, 8, 8, 8, 8, 8, 8, 8, 8, 8, 8, 8, 8, 8, 8, 8, 8, 8, 8, 8, 8, 8, 8, 8, 8, 8, 8, 8, 8, 8, 8, 8, 8, 8, 8, 8, 8, 8, 8, 8, 8, 8, 8, 8, 8, 8, 8, 8, 8, 8, 8, 8, 8, 8, 8, 8, 8, 8] : Str) (wi .u8 s6.1)).bind fun c1 =>
        some (wi .i64 (s6.2 + (wi .i64 (c1.toNat : Int))))) (fun i3 s6 =>
        none) (fun s6 =>
        some s6.2))) (fun i2 s4 =>
      none) (fun s4 =>
      some s4.2))) (fun i1 s2 =>
    none) (fun s2 =>
    some s2.2))
theorem w148 {d : Nat} (hd : 1 ≤ d) (a0 : Int) : Fit (R NN d 148 [.int .u64 a0] []) (m148 a0) (P0 (fun (t : Int) => AV.int .i64 t)) := by
  obtain ⟨d, rfl, g⟩ := up hd
  rw [t148]
  refine (?_ : Okh [] (fun S => b148 (cfg NN) (R NN d) (.int .u64 a0) S) _ _) [] HP.nil
  unfold b148 m148
  refine okh_cut (I := (fun (s : Int × Int) l L => l = [.int .u64 s.1, .int .i64 s.2] ∧ L = [])) ?_ ?_ ?_ ?_
  · refine okh_p (fun _ => rfl) ?_
    refine okh_if (fun h1 => ?_) (fun h1 => ?_)
    · refine okh_p (fun _ => rfl) ?_
      exact okh_norm 0 ⟨rfl, rfl⟩
    · exact okh_norm 0 ⟨rfl, rfl⟩
  · rintro s2 _ _ ⟨rfl, rfl⟩
    refine okh_cut (I := (fun (s : Int × Int) l L => l = [.int .u64 s.1, .int .i64 s.2] ∧ L = [])) ?_ ?_ ?_ ?_
    · refine okh_p (fun _ => rfl) ?_
      refine okh_if (fun h2 => ?_) (fun h2 => ?_)
      · refine okh_p (fun _ => rfl) ?_
        refine okh_p (fun _ => rfl) ?_
        exact okh_norm 0 ⟨rfl, rfl⟩
      · exact okh_norm 0 ⟨rfl, rfl⟩
    · rintro s4 _ _ ⟨rfl, rfl⟩
      refine okh_cut (I := (fun (s : Int × Int) l L => l = [.int .u64 s.1, .int .i64 s.2] ∧ L = [])) ?_ ?_ ?_ ?_
      · refine okh_p (fun _ => rfl) ?_
        refine okh_if (fun h3 => ?_) (fun h3 => ?_)
        · refine okh_p (fun _ => rfl) ?_
          refine okh_p (fun _ => rfl) ?_
          exact okh_norm 0 ⟨rfl, rfl⟩
        · exact okh_norm 0 ⟨rfl, rfl⟩
      · rintro s6 _ _ ⟨rfl, rfl⟩
        refine okh_p (fun _ => cvt171_5 _ _) ?_
        refine okh_sx fun c1 hc1 => ?_
        refine okh_p (fun _ => cvt5_3 _ _) ?_
        refine okh_p (fun _ => rfl) ?_
        exact okh_ret (cv_p rfl) rfl
      · rintro i3 s6 _ _ ⟨rfl, rfl⟩
        exact okh_none
      · rintro s6 _ _ ⟨rfl, rfl⟩
        exact okh_ret (cv_p rfl) rfl
    · rintro i2 s4 _ _ ⟨rfl, rfl⟩
      exact okh_none
    · rintro s4 _ _ ⟨rfl, rfl⟩
      exact okh_ret (cv_p rfl) rfl
  · rintro i1 s2 _ _ ⟨rfl, rfl⟩
    exact okh_none
  · rintro s2 _ _ ⟨rfl, rfl⟩
    exact okh_ret (cv_p rfl) rfl
/- math/bits.Len -/
noncomputable def m130 (a0 : Int) : Option (Int) :=
  (m148 a0).bind fun y1 =>
  some y1
theorem w130 {d : Nat} (hd : 2 ≤ d) (a0 : Int) : Fit (R NN d 130 [.int .u64 a0] []) (m130 a0) (P0 (fun (t : Int) => AV.int .i64 t)) := by
  obtain ⟨d, rfl, g⟩ := up hd
  rw [t130]
  refine (?_ : Okh [] (fun S => b130 (cfg NN) (R NN d) (.int .u64 a0) S) _ _) [] HP.nil
  unfold b130 m130
  refine okh_c0 (mg := m148 a0) (E := (fun (t : Int) => AV.int .i64 t)) (fun S hS => args1 (M := fun a => Fit (R NN d 148 a []) _ _) (cv_p rfl) hS fun l0_ => w148 (by omega) a0) fun y1 hy1 => ?_
  exact okh_ret (cv_p rfl) rfl
/- slices.nextPowerOfTwo -/
noncomputable def m151 (a0 : Int) : Option (Int) :=
  (m130 (wi .u64 a0)).bind fun y1 =>
  (shlO .u64 1 y1).bind fun q1 =>
  some q1
theorem w151 {d : Nat} (hd : 3 ≤ d) (a0 : Int) : Fit (R NN d 151 [.int .i64 a0] []) (m151 a0) (P0 (fun (t : Int) => AV.int .u64 t)) := by
  obtain ⟨d, rfl, g⟩ := up hd
  rw [t151]
  refine (?_ : Okh [] (fun S => b151 (cfg NN) (R NN d) (.int .i64 a0) S) _ _) [] HP.nil
  unfold b151 m151
  refine okh_p (fun _ => cvt3_152 _ _) ?_
  refine okh_c0 (mg := m130 (wi .u64 a0)) (E := (fun (t : Int) => AV.int .i64 t)) (fun S hS => args1 (M := fun a => Fit (R NN d 130 a []) _ _) (cv_p rfl) hS fun l0_ => w130 (by omega) (wi .u64 a0)) fun y1 hy1 => ?_
  refine okh_shl fun q1 hq1 => ?_
  exact okh_ret (cv_p rfl) rfl
/- (*slices.xorshift).Next -/
noncomputable def m152 (a0 : Int) : Int × Int :=
  (xorI .u64 (xorI .u64 (xorI .u64 a0 (shlI .u64 a0 13)) (shrI .u64 (xorI .u64 a0 (shlI .u64 a0 13)) 7)) (shlI .u64 (xorI .u64 (xorI .u64 a0 (shlI .u64 a0 13)) (shrI .u64 (xorI .u64 a0 (shlI .u64 a0 13)) 7)) 17), xorI .u64 (xorI .u64 (xorI .u64 a0 (shlI .u64 a0 13)) (shrI .u64 (xorI .u64 a0 (shlI .u64 a0 13)) 7)) (shlI .u64 (xorI .u64 (xorI .u64 a0 (shlI .u64 a0 13)) (shrI .u64 (xorI .u64 a0 (shlI .u64 a0 13)) 7)) 17))
theorem w152 {d : Nat} (hd : 1 ≤ d) (L0 : List En) (b0_ : Nat) (a0 : Int) : Okh (bx b0_ [.int .u64 a0] :: L0) (fun S => R NN d 152 [.bp b0_ 0 0 1 1] S) (some (m152 a0)) (P2 (fun (t : Int × Int) => AV.int .u64 t.1) (fun (t : Int × Int) => bx b0_ [.int .u64 t.2] :: L0)) := by
  obtain ⟨d, rfl, g⟩ := up hd
  rw [show (fun S => R NN (d + 1) 152 [.bp b0_ 0 0 1 1] S) = fun S => b152 (cfg NN) (R NN d) (.bp b0_ 0 0 1 1) S from funext fun S => t152 NN d (.bp b0_ 0 0 1 1) S]
  unfold b152 m152
  refine okh_q (fun _ => rfl) ?_
  refine okh_ld 0 rfl rfl ?_
  refine okh_q (fun _ => rfl) ?_
  refine okh_ld 0 rfl rfl ?_
  refine okh_p (fun _ => rfl) ?_
  refine okh_p (fun _ => rfl) ?_
  refine okh_q (fun _ => rfl) ?_
  refine okh_st 0 rfl rfl rfl (by decide) rfl ?_
  refine okh_q (fun _ => rfl) ?_
  refine okh_ld 0 rfl rfl ?_
  refine okh_q (fun _ => rfl) ?_
  refine okh_ld 0 rfl rfl ?_
  refine okh_p (fun _ => rfl) ?_
  refine okh_p (fun _ => rfl) ?_
  refine okh_q (fun _ => rfl) ?_
  refine okh_st 0 rfl rfl rfl (by decide) rfl ?_
  refine okh_q (fun _ => rfl) ?_
  refine okh_ld 0 rfl rfl ?_
  refine okh_q (fun _ => rfl) ?_
  refine okh_ld 0 rfl rfl ?_
  refine okh_p (fun _ => rfl) ?_
  refine okh_p (fun _ => rfl) ?_
  refine okh_q (fun _ => rfl) ?_
  refine okh_st 0 rfl rfl rfl (by decide) rfl ?_
  refine okh_q (fun _ => rfl) ?_
  refine okh_ld 0 rfl rfl ?_
  exact okh_ret2 0 rfl rfl
/- slices.breakPatternsOrdered[int64] -/
noncomputable def ms140_0 (a1 : Int) (a2 : Int) (y1 : Int) (s1 : Int × Int × (List Int)) : Option (LO (Int × Int × (List Int))) :=
  bif decide (s1.1 ≤ (wi .i64 ((wi .i64 (a1 + (wi .i64 ((wi .i64 (Int.tdiv (wi .i64 (a2 - a1)) 4)) * 2)))) + 1))) then
    (
      (some (m152 s1.2.1)).bind fun y2 =>
      (
        bif decide ((wi .i64 (andI .u64 y2.1 (wi .u64 (y1 - 1)))) ≥ (wi .i64 (a2 - a1))) then
          some (LO.norm (wi .i64 ((wi .i64 (andI .u64 y2.1 (wi .u64 (y1 - 1)))) - (wi .i64 (a2 - a1)))))
        else
          some (LO.norm (wi .i64 (andI .u64 y2.1 (wi .u64 (y1 - 1)))))).bind (contO (fun s4 =>
        (getI s1.2.2 (wi .i64 (a1 + s4))).bind fun x1 =>
        (getI s1.2.2 s1.1).bind fun x2 =>
        (getI s1.2.2 s1.1).bind fun x3 =>
        (getI (s1.2.2.set (Int.toNat s1.1) x1) (wi .i64 (a1 + s4))).bind fun x4 =>
        some (LO.norm (y2.2, (s1.2.2.set (Int.toNat s1.1) x1).set (Int.toNat (wi .i64 (a1 + s4))) x2))) (fun i1 s4 =>
        if i1 = 1 then
          some (LO.norm (y2.2, s1.2.2))
        else
          some (LO.exit i1 (y2.2, s1.2.2))) (fun s4 =>
        some (LO.ret (y2.2, s1.2.2))))).bind (contO (fun s5 =>
      some (LO.norm (wi .i64 (s1.1 + 1), s5.1, s5.2))) (fun i2 s5 =>
      some (LO.exit i2 (s1.1, s5.1, s5.2))) (fun s5 =>
      some (LO.ret (s1.1, s5.1, s5.2))))
  else
    some (LO.exit 0 (s1.1, s1.2.1, s1.2.2))
noncomputable def m140 (a0 : List Int) (a1 : Int) (a2 : Int) : Option ((List Int)) :=
  bif decide ((wi .i64 (a2 - a1)) ≥ 8) then
    (m151 (wi .i64 (a2 - a1))).bind fun y1 =>
    (loopO (ms140_0 a1 a2 y1) NN (wi .i64 ((wi .i64 (a1 + (wi .i64 ((wi .i64 (Int.tdiv (wi .i64 (a2 - a1)) 4)) * 2)))) - 1), wi .u64 (wi .i64 (a2 - a1)), a0)).bind (contO (fun _ => none) (fun i3 s6 =>
      if i3 = 0 then
        some s6.2.2
      else
        none) (fun s6 =>
      some s6.2.2))
  else
    some a0
theorem w140 {d : Nat} (hd : 4 ≤ d) (L0 : List En) (v0_ : AV) (a0 : List Int) (a1 : Int) (a2 : Int) : Okh (sl false v0_ (a0 : List Int) :: L0) (fun S => R NN d 140 [v0_, .int .i64 a1, .int .i64 a2] S) (m140 a0 a1 a2) (P2 (fun (t : (List Int)) => und) (fun (t : (List Int)) => sl false v0_ t :: L0)) := by
  obtain ⟨d, rfl, g⟩ := up hd
  rw [show (fun S => R NN (d + 1) 140 [v0_, .int .i64 a1, .int .i64 a2] S) = fun S => b140 (cfg NN) (R NN d) (v0_) (.int .i64 a1) (.int .i64 a2) S from funext fun S => t140 NN d v0_ (.int .i64 a1) (.int .i64 a2) S]
  unfold b140 m140
  refine okh_p (fun _ => rfl) ?_
  refine okh_p (fun _ => rfl) ?_
  refine okh_if (fun h3 => ?_) (fun h3 => ?_)
  · refine okh_p (fun _ => cvt3_175 _ _) ?_
    refine okh_new rfl fun b1 => ?_
    refine okh_st 0 rfl rfl rfl (by decide) rfl ?_
    refine okh_c0 (mg := m151 (wi .i64 (a2 - a1))) (E := (fun (t : Int) => AV.int .u64 t)) (fun S hS => args1 (M := fun a => Fit (R NN d 151 a []) _ _) (cv_p rfl) hS fun l0_ => w151 (by omega) (wi .i64 (a2 - a1))) fun y1 hy1 => ?_
    refine okh_p (fun _ => rfl) ?_
    refine okh_p (fun _ => rfl) ?_
    refine okh_p (fun _ => rfl) ?_
    refine okh_p (fun _ => rfl) ?_
    refine okh_loop (I := (fun (s : Int × Int × (List Int)) l L => l = [.int .i64 s.1] ∧ L = bx b1 [.int .u64 s.2.1] :: sl false v0_ (s.2.2 : List Int) :: L0)) 0 ⟨rfl, rfl⟩ ?_ ?_ ?_
    · rintro s1 _ _ ⟨rfl, rfl⟩
      unfold s140_0 ms140_0
      refine okh_p (fun _ => rfl) ?_
      refine okh_p (fun _ => rfl) ?_
      refine okh_p (fun _ => rfl) ?_
      refine okh_p (fun _ => rfl) ?_
      refine okh_p (fun _ => rfl) ?_
      refine okh_if (fun h2 => ?_) (fun h2 => ?_)
      · refine okh_cut (I := (fun (s : Int × (List Int)) l L => l = [] ∧ L = bx b1 [.int .u64 s.1] :: sl false v0_ (s.2 : List Int) :: L0)) ?_ ?_ ?_ ?_
        · refine okh_s (mg := some (m152 s1.2.1)) (w152 (by omega) _ _ s1.2.1) fun y2 hy2 => ?_
          refine okh_p (fun _ => rfl) ?_
          refine okh_p (fun _ => rfl) ?_
          refine okh_p (fun _ => cvt152_3 _ _) ?_
          refine okh_cut (I := (fun (s : Int) l L => l = [.int .i64 s] ∧ L = bx b1 [.int .u64 y2.2] :: sl false v0_ (s1.2.2 : List Int) :: L0)) ?_ ?_ ?_ ?_
          · refine okh_p (fun _ => rfl) ?_
            refine okh_if (fun h1 => ?_) (fun h1 => ?_)
            · refine okh_p (fun _ => rfl) ?_
              exact okh_norm 0 ⟨rfl, rfl⟩
            · exact okh_norm 0 ⟨rfl, rfl⟩
          · rintro s4 _ _ ⟨rfl, rfl⟩
            refine okh_p (fun _ => rfl) ?_
            refine okh_p (fun _ => rfl) ?_
            refine okh_ixo 1 rfl rfl fun x1 hx1 => ?_
            refine okh_ldo 1 rfl hx1 rfl ?_
            refine okh_ixo 1 rfl rfl fun x2 hx2 => ?_
            refine okh_ldo 1 rfl hx2 rfl ?_
            refine okh_ixo 1 rfl rfl fun x3 hx3 => ?_
            refine okh_stoe (y := x1) 1 rfl rfl hx3 rfl (by decide) ?_
            refine okh_ixo 1 rfl rfl fun x4 hx4 => ?_
            refine okh_stoe (y := x2) 1 rfl rfl hx4 rfl (by decide) ?_
            exact okh_norm 0 ⟨rfl, rfl⟩
          · rintro i1 s4 _ _ ⟨rfl, rfl⟩
            refine okh_ite (fun _ => ?_) (fun _ => ?_)
            · exact okh_norm 0 ⟨rfl, rfl⟩
            · exact okh_exit 0 ⟨rfl, rfl⟩
          · rintro s4 _ _ ⟨rfl, rfl⟩
            exact okh_lret 0 ⟨rfl, rfl⟩
        · rintro s5 _ _ ⟨rfl, rfl⟩
          refine okh_p (fun _ => rfl) ?_
          exact okh_norm 0 ⟨rfl, rfl⟩
        · rintro i2 s5 _ _ ⟨rfl, rfl⟩
          exact okh_exit 0 ⟨rfl, rfl⟩
        · rintro s5 _ _ ⟨rfl, rfl⟩
          exact okh_lret 0 ⟨rfl, rfl⟩
      · exact okh_exit 0 ⟨rfl, rfl⟩
    · rintro i3 s6 _ _ ⟨rfl, rfl⟩
      refine okh_ite (fun _ => ?_) (fun _ => ?_)
      · exact okh_ret2 1 rfl rfl
      · exact okh_none
    · rintro s6 _ _ ⟨rfl, rfl⟩
      exact okh_ret2 1 rfl rfl
  · exact okh_ret2 0 rfl rfl
/- slices.order2Ordered[int64] -/
noncomputable def m157 (a0 : List Int) (a1 : Int) (a2 : Int) (a3 : Int) : Option (Int × Int × Int) :=
  (getI a0 a2).bind fun x1 =>
  (getI a0 a1).bind fun x2 =>
  (m144 x1 x2).bind fun y1 =>
  bif y1 then
    some (a2, a1, wi .i64 (a3 + 1))
  else
    some (a1, a2, a3)
theorem w157 {d : Nat} (hd : 3 ≤ d) (L0 : List En) (k0 : Bool) (f0_ : Bool) (a0 : List Int) (a1 : Int) (a2 : Int) (b3_ : Nat) (a3 : Int) : Okh (bx b3_ [.int .i64 a3] :: L0) (fun S => R NN d 157 [.rsl k0 f0_ (a0.map (Enc.cs k0)), .int .i64 a1, .int .i64 a2, .bp b3_ 0 0 1 1] S) (m157 a0 a1 a2 a3) (P2 (fun (t : Int × Int × Int) => AV.tup [.int .i64 t.1, .int .i64 t.2.1]) (fun (t : Int × Int × Int) => bx b3_ [.int .i64 t.2.2] :: L0)) := by
  obtain ⟨d, rfl, g⟩ := up hd
  rw [show (fun S => R NN (d + 1) 157 [.rsl k0 f0_ (a0.map (Enc.cs k0)), .int .i64 a1, .int .i64 a2, .bp b3_ 0 0 1 1] S) = fun S => b157 (cfg NN) (R NN d) (.rsl k0 f0_ (a0.map (Enc.cs k0))) (.int .i64 a1) (.int .i64 a2) (.bp b3_ 0 0 1 1) S from funext fun S => t157 NN d (.rsl k0 f0_ (a0.map (Enc.cs k0))) (.int .i64 a1) (.int .i64 a2) (.bp b3_ 0 0 1 1) S]
  unfold b157 m157
  refine okh_ix rfl fun x1 hx1 => ?_
  refine okh_p (fun _ => rfl) ?_
  refine okh_ix rfl fun x2 hx2 => ?_
  refine okh_p (fun _ => rfl) ?_
  refine okh_c0 (mg := m144 x1 x2) (E := (fun (t : Bool) => AV.bool t)) (fun S hS => args2 (M := fun a => Fit (R NN d 144 a []) _ _) (cv_p rfl) (cv_p rfl) hS fun l0_ l1_ => w144 (by omega) x1 x2) fun y1 hy1 => ?_
  refine okh_if (fun h1 => ?_) (fun h1 => ?_)
  · refine okh_q (fun _ => rfl) ?_
    refine okh_ld 0 rfl rfl ?_
    refine okh_p (fun _ => rfl) ?_
    refine okh_q (fun _ => rfl) ?_
    refine okh_st 0 rfl rfl rfl (by decide) rfl ?_
    exact okh_ret2 0 rfl rfl
  · exact okh_ret2 0 rfl rfl
/- slices.medianOrdered[int64] -/
noncomputable def m154 (a0 : List Int) (a1 : Int) (a2 : Int) (a3 : Int) (a4 : Int) : Option (Int × Int) :=
  (m157 a0 a1 a2 a4).bind fun y1 =>
  (m157 a0 y1.2.1 a3 y1.2.2).bind fun y2 =>
  (m157 a0 y1.1 y2.1 y2.2.2).bind fun y3 =>
  some (y3.2.1, y3.2.2)
theorem w154 {d : Nat} (hd : 4 ≤ d) (L0 : List En) (k0 : Bool) (f0_ : Bool) (a0 : List Int) (a1 : Int) (a2 : Int) (a3 : Int) (b4_ : Nat) (a4 : Int) : Okh (bx b4_ [.int .i64 a4] :: L0) (fun S => R NN d 154 [.rsl k0 f0_ (a0.map (Enc.cs k0)), .int .i64 a1, .int .i64 a2, .int .i64 a3, .bp b4_ 0 0 1 1] S) (m154 a0 a1 a2 a3 a4) (P2 (fun (t : Int × Int) => AV.int .i64 t.1) (fun (t : Int × Int) => bx b4_ [.int .i64 t.2] :: L0)) := by
  obtain ⟨d, rfl, g⟩ := up hd
  rw [show (fun S => R NN (d + 1) 154 [.rsl k0 f0_ (a0.map (Enc.cs k0)), .int .i64 a1, .int .i64 a2, .int .i64 a3, .bp b4_ 0 0 1 1] S) = fun S => b154 (cfg NN) (R NN d) (.rsl k0 f0_ (a0.map (Enc.cs k0))) (.int .i64 a1) (.int .i64 a2) (.int .i64 a3) (.bp b4_ 0 0 1 1) S from funext fun S => t154 NN d (.rsl k0 f0_ (a0.map (Enc.cs k0))) (.int .i64 a1) (.int .i64 a2) (.int .i64 a3) (.bp b4_ 0 0 1 1) S]
  unfold b154 m154
  refine okh_s (mg := m157 a0 a1 a2 a4) (w157 (by omega) _ _ _ a0 a1 a2 _ a4) fun y1 hy1 => ?_
  refine okh_q (fun _ => rfl) ?_
  refine okh_q (fun _ => rfl) ?_
  refine okh_s (mg := m157 a0 y1.2.1 a3 y1.2.2) (w157 (by omega) _ _ _ a0 y1.2.1 a3 _ y1.2.2) fun y2 hy2 => ?_
  refine okh_q (fun _ => rfl) ?_
  refine okh_q (fun _ => rfl) ?_
  refine okh_s (mg := m157 a0 y1.1 y2.1 y2.2.2) (w157 (by omega) _ _ _ a0 y1.1 y2.1 _ y2.2.2) fun y3 hy3 => ?_
  refine okh_q (fun _ => rfl) ?_
  refine okh_q (fun _ => rfl) ?_
  exact okh_ret2 0 rfl rfl
/- slices.medianAdjacentOrdered[int64] -/
noncomputable def m153 (a0 : List Int) (a1 : Int) (a2 : Int) : Option (Int × Int) :=
  (m154 a0 (wi .i64 (a1 - 1)) a1 (wi .i64 (a1 + 1)) a2).bind fun y1 =>
  some (y1.1, y1.2)
theorem w153 {d : Nat} (hd : 5 ≤ d) (L0 : List En) (k0 : Bool) (f0_ : Bool) (a0 : List Int) (a1 : Int) (b2_ : Nat) (a2 : Int) : Okh (bx b2_ [.int .i64 a2] :: L0) (fun S => R NN d 153 [.rsl k0 f0_ (a0.map (Enc.cs k0)), .int .i64 a1, .bp b2_ 0 0 1 1] S) (m153 a0 a1 a2) (P2 (fun (t : Int × Int) => AV.int .i64 t.1) (fun (t : Int × Int) => bx b2_ [.int .i64 t.2] :: L0)) := by
  obtain ⟨d, rfl, g⟩ := up hd
  rw [show (fun S => R NN (d + 1) 153 [.rsl k0 f0_ (a0.map (Enc.cs k0)), .int .i64 a1, .bp b2_ 0 0 1 1] S) = fun S => b153 (cfg NN) (R NN d) (.rsl k0 f0_ (a0.map (Enc.cs k0))) (.int .i64 a1) (.bp b2_ 0 0 1 1) S from funext fun S => t153 NN d (.rsl k0 f0_ (a0.map (Enc.cs k0))) (.int .i64 a1) (.bp b2_ 0 0 1 1) S]
  unfold b153 m153
  refine okh_p (fun _ => rfl) ?_
  refine okh_p (fun _ => rfl) ?_
  refine okh_s (mg := m154 a0 (wi .i64 (a1 - 1)) a1 (wi .i64 (a1 + 1)) a2) (w154 (by omega) _ _ _ a0 (wi .i64 (a1 - 1)) a1 (wi .i64 (a1 + 1)) _ a2) fun y1 hy1 => ?_
  exact okh_ret2 0 rfl rfl
/- slices.choosePivotOrdered[int64] -/
noncomputable def m141 (a0 : List Int) (a1 : Int) (a2 : Int) : Option (Int × Int) :=
  (
    bif decide ((wi .i64 (a2 - a1)) ≥ 8) then
      (
        bif decide ((wi .i64 (a2 - a1)) ≥ 50) then
          (m153 a0 (wi .i64 (a1 + (wi .i64 ((wi .i64 (Int.tdiv (wi .i64 (a2 - a1)) 4)) * 1)))) 0).bind fun y1 =>
          (m153 a0 (wi .i64 (a1 + (wi .i64 ((wi .i64 (Int.tdiv (wi .i64 (a2 - a1)) 4)) * 2)))) y1.2).bind fun y2 =>
          (m153 a0 (wi .i64 (a1 + (wi .i64 ((wi .i64 (Int.tdiv (wi .i64 (a2 - a1)) 4)) * 3)))) y2.2).bind fun y3 =>
          some (LO.norm (y1.1, y2.1, y3.1, y3.2))
        else
          some (LO.norm (wi .i64 (a1 + (wi .i64 ((wi .i64 (Int.tdiv (wi .i64 (a2 - a1)) 4)) * 1))), wi .i64 (a1 + (wi .i64 ((wi .i64 (Int.tdiv (wi .i64 (a2 - a1)) 4)) * 2))), wi .i64 (a1 + (wi .i64 ((wi .i64 (Int.tdiv (wi .i64 (a2 - a1)) 4)) * 3))), 0))).bind (contO (fun s3 =>
        (m154 a0 s3.1 s3.2.1 s3.2.2.1 s3.2.2.2).bind fun y4 =>
        some (LO.norm (y4.1, y4.2))) (fun i1 s3 =>
        some (LO.exit i1 (s3.2.1, s3.2.2.2))) (fun s3 =>
        some (LO.ret (s3.2.1, s3.2.2.2))))
    else
      some (LO.norm (wi .i64 (a1 + (wi .i64 ((wi .i64 (Int.tdiv (wi .i64 (a2 - a1)) 4)) * 2))), 0))).bind (contO (fun s4 =>
    bif s4.2 == 0 then
      some (s4.1, 1)
    else
      bif s4.2 == 12 then
        some (s4.1, 2)
      else
        some (s4.1, 0)) (fun i2 s4 =>
    none) (fun s4 =>
    some (0, 0)))
theorem w141 {d : Nat} (hd : 6 ≤ d) (k0 : Bool) (a0 : List Int) (a1 : Int) (a2 : Int) : Fit (R NN d 141 [.rsl k0 false (a0.map (Enc.cs k0)), .int .i64 a1, .int .i64 a2] []) (m141 a0 a1 a2) (P0 (fun (t : Int × Int) => AV.tup [.int .i64 t.1, .int .i64 t.2])) := by
  obtain ⟨d, rfl, g⟩ := up hd
  rw [t141]
  refine (?_ : Okh [] (fun S => b141 (cfg NN) (R NN d) (.rsl k0 false (a0.map (Enc.cs k0))) (.int .i64 a1) (.int .i64 a2) S) _ _) [] HP.nil
  unfold b141 m141
  refine okh_p (fun _ => rfl) ?_
  refine okh_new rfl fun b1 => ?_
  refine okh_p (fun _ => rfl) ?_
  refine okh_p (fun _ => rfl) ?_
  refine okh_p (fun _ => rfl) ?_
  refine okh_p (fun _ => rfl) ?_
  refine okh_p (fun _ => rfl) ?_
  refine okh_p (fun _ => rfl) ?_
  refine okh_p (fun _ => rfl) ?_
  refine okh_p (fun _ => rfl) ?_
  refine okh_p (fun _ => rfl) ?_
  refine okh_cut (I := (fun (s : Int × Int) l L => l = [.int .i64 s.1] ∧ L = [bx b1 [.int .i64 s.2]])) ?_ ?_ ?_ ?_
  · refine okh_p (fun _ => rfl) ?_
    refine okh_if (fun h2 => ?_) (fun h2 => ?_)
    · refine okh_cut (I := (fun (s : Int × Int × Int × Int) l L => l = [.int .i64 s.1, .int .i64 s.2.1, .int .i64 s.2.2.1] ∧ L = [bx b1 [.int .i64 s.2.2.2]])) ?_ ?_ ?_ ?_
      · refine okh_p (fun _ => rfl) ?_
        refine okh_if (fun h1 => ?_) (fun h1 => ?_)
        · refine okh_s (mg := m153 a0 (wi .i64 (a1 + (wi .i64 ((wi .i64 (Int.tdiv (wi .i64 (a2 - a1)) 4)) * 1)))) 0) (w153 (by omega) _ _ _ a0 (wi .i64 (a1 + (wi .i64 ((wi .i64 (Int.tdiv (wi .i64 (a2 - a1)) 4)) * 1)))) _ 0) fun y1 hy1 => ?_
          refine okh_s (mg := m153 a0 (wi .i64 (a1 + (wi .i64 ((wi .i64 (Int.tdiv (wi .i64 (a2 - a1)) 4)) * 2)))) y1.2) (w153 (by omega) _ _ _ a0 (wi .i64 (a1 + (wi .i64 ((wi .i64 (Int.tdiv (wi .i64 (a2 - a1)) 4)) * 2)))) _ y1.2) fun y2 hy2 => ?_
          refine okh_s (mg := m153 a0 (wi .i64 (a1 + (wi .i64 ((wi .i64 (Int.tdiv (wi .i64 (a2 - a1)) 4)) * 3)))) y2.2) (w153 (by omega) _ _ _ a0 (wi .i64 (a1 + (wi .i64 ((wi .i64 (Int.tdiv (wi .i64 (a2 - a1)) 4)) * 3)))) _ y2.2) fun y3 hy3 => ?_
          exact okh_norm 0 ⟨rfl, rfl⟩
        · exact okh_norm 0 ⟨rfl, rfl⟩
      · rintro s3 _ _ ⟨rfl, rfl⟩
        refine okh_s (mg := m154 a0 s3.1 s3.2.1 s3.2.2.1 s3.2.2.2) (w154 (by omega) _ _ _ a0 s3.1 s3.2.1 s3.2.2.1 _ s3.2.2.2) fun y4 hy4 => ?_
        exact okh_norm 0 ⟨rfl, rfl⟩
      · rintro i1 s3 _ _ ⟨rfl, rfl⟩
        exact okh_exit 0 ⟨rfl, rfl⟩
      · rintro s3 _ _ ⟨rfl, rfl⟩
        exact okh_lret 0 ⟨rfl, rfl⟩
    · exact okh_norm 0 ⟨rfl, rfl⟩
  · rintro s4 _ _ ⟨rfl, rfl⟩
    refine okh_ld 0 rfl rfl ?_
    refine okh_p (fun _ => rfl) ?_
    refine okh_if (fun h4 => ?_) (fun h4 => ?_)
    · exact okh_ret (cv_t (cvs_cons (cv_p rfl) (cvs_cons (cv_p rfl) cvs_nil))) rfl
    · refine okh_p (fun _ => rfl) ?_
      refine okh_if (fun h3 => ?_) (fun h3 => ?_)
      · exact okh_ret (cv_t (cvs_cons (cv_p rfl) (cvs_cons (cv_p rfl) cvs_nil))) rfl
      · exact okh_ret (cv_t (cvs_cons (cv_p rfl) (cvs_cons (cv_p rfl) cvs_nil))) rfl
  · rintro i2 s4 _ _ ⟨rfl, rfl⟩
    exact okh_none
  · rintro s4 _ _ ⟨rfl, rfl⟩
    exact okh_ret (cv_t (cvs_cons (cv_p rfl) (cvs_cons (cv_p rfl) cvs_nil))) rfl
/- slices.reverseRangeOrdered[int64] -/
noncomputable def ms142_0 (s1 : Int × Int × (List Int)) : Option (LO (Int × Int × (List Int))) :=
  bif decide (s1.1 < s1.2.1) then
    (getI s1.2.2 s1.2.1).bind fun x1 =>
    (getI s1.2.2 s1.1).bind fun x2 =>
    (getI s1.2.2 s1.1).bind fun x3 =>
    (getI (s1.2.2.set (Int.toNat s1.1) x1) s1.2.1).bind fun x4 =>
    some (LO.norm (wi .i64 (s1.1 + 1), wi .i64 (s1.2.1 - 1), (s1.2.2.set (Int.toNat s1.1) x1).set (Int.toNat s1.2.1) x2))
  else
    some (LO.exit 0 (s1.1, s1.2.1, s1.2.2))
noncomputable def m142 (a0 : List Int) (a1 : Int) (a2 : Int) : Option ((List Int)) :=
  (loopO (ms142_0) NN (a1, wi .i64 (a2 - 1), a0)).bind (contO (fun _ => none) (fun i1 s2 =>
    if i1 = 0 then
      some s2.2.2
    else
      none) (fun s2 =>
    some s2.2.2))
theorem w142 {d : Nat} (hd : 1 ≤ d) (L0 : List En) (v0_ : AV) (a0 : List Int) (a1 : Int) (a2 : Int) : Okh (sl false v0_ (a0 : List Int) :: L0) (fun S => R NN d 142 [v0_, .int .i64 a1, .int .i64 a2] S) (m142 a0 a1 a2) (P2 (fun (t : (List Int)) => und) (fun (t : (List Int)) => sl false v0_ t :: L0)) := by
  obtain ⟨d, rfl, g⟩ := up hd
  rw [show (fun S => R NN (d + 1) 142 [v0_, .int .i64 a1, .int .i64 a2] S) = fun S => b142 (cfg NN) (R NN d) (v0_) (.int .i64 a1) (.int .i64 a2) S from funext fun S => t142 NN d v0_ (.int .i64 a1) (.int .i64 a2) S]
  unfold b142 m142
  refine okh_p (fun _ => rfl) ?_
  refine okh_loop (I := (fun (s : Int × Int × (List Int)) l L => l = [.int .i64 s.1, .int .i64 s.2.1] ∧ L = sl false v0_ (s.2.2 : List Int) :: L0)) 0 ⟨rfl, rfl⟩ ?_ ?_ ?_
  · rintro s1 _ _ ⟨rfl, rfl⟩
    unfold s142_0 ms142_0
    refine okh_p (fun _ => rfl) ?_
    refine okh_if (fun h1 => ?_) (fun h1 => ?_)
    · refine okh_ixo 0 rfl rfl fun x1 hx1 => ?_
      refine okh_ldo 0 rfl hx1 rfl ?_
      refine okh_ixo 0 rfl rfl fun x2 hx2 => ?_
      refine okh_ldo 0 rfl hx2 rfl ?_
      refine okh_ixo 0 rfl rfl fun x3 hx3 => ?_
      refine okh_stoe (y := x1) 0 rfl rfl hx3 rfl (by decide) ?_
      refine okh_ixo 0 rfl rfl fun x4 hx4 => ?_
      refine okh_stoe (y := x2) 0 rfl rfl hx4 rfl (by decide) ?_
      refine okh_p (fun _ => rfl) ?_
      refine okh_p (fun _ => rfl) ?_
      exact okh_norm 0 ⟨rfl, rfl⟩
    · exact okh_exit 0 ⟨rfl, rfl⟩
  · rintro i1 s2 _ _ ⟨rfl, rfl⟩
    refine okh_ite (fun _ => ?_) (fun _ => ?_)
    · exact okh_ret2 0 rfl rfl
    · exact okh_none
  · rintro s2 _ _ ⟨rfl, rfl⟩
    exact okh_ret2 0 rfl rfl
/- slices.partialInsertionSortOrdered[int64] -/
noncomputable def ms143_0 (a2 : Int) (s1 : Bool × Int × Int × (List Int)) (s3 : Int) : Option (LO (Int)) :=
  (
    (
      bif decide (s3 < a2) then
        (getI s1.2.2.2 s3).bind fun x1 =>
        (getI s1.2.2.2 (wi .i64 (s3 - 1))).bind fun x2 =>
        (m144 x1 x2).bind fun y1 =>
        some (LO.norm (!y1))
      else
        some (LO.norm false)).bind (contO (fun s6 =>
      bif s6 then
        some (LO.norm s6)
      else
        some (LO.exit 2 s6)) (fun i1 s6 =>
      some (LO.exit i1 s6)) (fun s6 =>
      some (LO.ret s6)))).bind (contO (fun s7 =>
    some (LO.norm (wi .i64 (s3 + 1)))) (fun i2 s7 =>
    some (LO.exit i2 s3)) (fun s7 =>
    some (LO.ret s3)))
noncomputable def ms143_1 (s10 : Int × (List Int)) : Option (LO (Int × (List Int))) :=
  bif decide (s10.1 ≥ 1) then
    (getI s10.2 s10.1).bind fun x7 =>
    (getI s10.2 (wi .i64 (s10.1 - 1))).bind fun x8 =>
    (m144 x7 x8).bind fun y2 =>
    bif !y2 then
      some (LO.exit 4 (s10.1, s10.2))
    else
      (getI s10.2 (wi .i64 (s10.1 - 1))).bind fun x9 =>
      (getI s10.2 s10.1).bind fun x10 =>
      (getI s10.2 s10.1).bind fun x11 =>
      (getI (s10.2.set (Int.toNat s10.1) x9) (wi .i64 (s10.1 - 1))).bind fun x12 =>
      some (LO.norm (wi .i64 (s10.1 - 1), (s10.2.set (Int.toNat s10.1) x9).set (Int.toNat (wi .i64 (s10.1 - 1))) x10))
  else
    some (LO.exit 4 (s10.1, s10.2))
noncomputable def ms143_2 (a2 : Int) (s13 : Int × (List Int)) : Option (LO (Int × (List Int))) :=
  bif decide (s13.1 < a2) then
    (getI s13.2 s13.1).bind fun x13 =>
    (getI s13.2 (wi .i64 (s13.1 - 1))).bind fun x14 =>
    (m144 x13 x14).bind fun y3 =>
    bif !y3 then
      some (LO.exit 6 (s13.1, s13.2))
    else
      (getI s13.2 (wi .i64 (s13.1 - 1))).bind fun x15 =>
      (getI s13.2 s13.1).bind fun x16 =>
      (getI s13.2 s13.1).bind fun x17 =>
      (getI (s13.2.set (Int.toNat s13.1) x15) (wi .i64 (s13.1 - 1))).bind fun x18 =>
      some (LO.norm (wi .i64 (s13.1 + 1), (s13.2.set (Int.toNat s13.1) x15).set (Int.toNat (wi .i64 (s13.1 - 1))) x16))
  else
    some (LO.exit 6 (s13.1, s13.2))
noncomputable def ms143_3 (a1 : Int) (a2 : Int) (s1 : Bool × Int × Int × (List Int)) : Option (LO (Bool × Int × Int × (List Int))) :=
  bif decide (s1.2.2.1 < 5) then
    (
      (loopO (ms143_0 a2 s1) NN s1.2.1).bind (contO (fun _ => none) (fun i3 s8 =>
        if i3 = 2 then
          bif s8 == a2 then
            some (LO.ret (true, s8, s1.2.2.2))
          else
            bif decide ((wi .i64 (a2 - a1)) < 50) then
              some (LO.ret (false, s8, s1.2.2.2))
            else
              (getI s1.2.2.2 (wi .i64 (s8 - 1))).bind fun x3 =>
              (getI s1.2.2.2 s8).bind fun x4 =>
              (getI s1.2.2.2 s8).bind fun x5 =>
              (getI (s1.2.2.2.set (Int.toNat s8) x3) (wi .i64 (s8 - 1))).bind fun x6 =>
              (
                bif decide ((wi .i64 (s8 - a1)) ≥ 2) then
                  (loopO (ms143_1) NN (wi .i64 (s8 - 1), (s1.2.2.2.set (Int.toNat s8) x3).set (Int.toNat (wi .i64 (s8 - 1))) x4)).bind (contO (fun _ => none) (fun i4 s11 =>
                    if i4 = 4 then
                      some (LO.norm s11.2)
                    else
                      some (LO.exit i4 s11.2)) (fun s11 =>
                    some (LO.ret s11.2)))
                else
                  some (LO.norm ((s1.2.2.2.set (Int.toNat s8) x3).set (Int.toNat (wi .i64 (s8 - 1))) x4))).bind (contO (fun s12 =>
                bif decide ((wi .i64 (a2 - s8)) ≥ 2) then
                  (loopO (ms143_2 a2) NN (wi .i64 (s8 + 1), s12)).bind (contO (fun _ => none) (fun i6 s14 =>
                    if i6 = 6 then
                      some (LO.norm (s1.1, s8, s14.2))
                    else
                      if i6 = 1 then
                        some (LO.norm (s1.1, s8, s14.2))
                      else
                        some (LO.exit i6 (s1.1, s8, s14.2))) (fun s14 =>
                    some (LO.ret (s1.1, s8, s14.2))))
                else
                  some (LO.norm (s1.1, s8, s12))) (fun i5 s12 =>
                if i5 = 1 then
                  some (LO.norm (s1.1, s8, s12))
                else
                  some (LO.exit i5 (s1.1, s8, s12))) (fun s12 =>
                some (LO.ret (s1.1, s8, s12))))
        else
          if i3 = 1 then
            some (LO.norm (s1.1, s8, s1.2.2.2))
          else
            some (LO.exit i3 (s1.1, s8, s1.2.2.2))) (fun s8 =>
        some (LO.ret (s1.1, s8, s1.2.2.2))))).bind (contO (fun s15 =>
      some (LO.norm (s15.1, s15.2.1, wi .i64 (s1.2.2.1 + 1), s15.2.2))) (fun i7 s15 =>
      some (LO.exit i7 (s15.1, s15.2.1, s1.2.2.1, s15.2.2))) (fun s15 =>
      some (LO.ret (s15.1, s15.2.1, s1.2.2.1, s15.2.2))))
  else
    some (LO.exit 0 (s1.1, s1.2.1, s1.2.2.1, s1.2.2.2))
noncomputable def m143 (a0 : List Int) (a1 : Int) (a2 : Int) : Option (Bool × (List Int)) :=
  (loopO (ms143_3 a1 a2) NN (false, wi .i64 (a1 + 1), 0, a0)).bind (contO (fun _ => none) (fun i8 s16 =>
    if i8 = 0 then
      some (false, s16.2.2.2)
    else
      none) (fun s16 =>
    some (s16.1, s16.2.2.2)))
theorem w143 {d : Nat} (hd : 3 ≤ d) (L0 : List En) (v0_ : AV) (a0 : List Int) (a1 : Int) (a2 : Int) : Okh (sl false v0_ (a0 : List Int) :: L0) (fun S => R NN d 143 [v0_, .int .i64 a1, .int .i64 a2] S) (m143 a0 a1 a2) (P2 (fun (t : Bool × (List Int)) => AV.bool t.1) (fun (t : Bool × (List Int)) => sl false v0_ t.2 :: L0)) := by
  obtain ⟨d, rfl, g⟩ := up hd
  rw [show (fun S => R NN (d + 1) 143 [v0_, .int .i64 a1, .int .i64 a2] S) = fun S => b143 (cfg NN) (R NN d) (v0_) (.int .i64 a1) (.int .i64 a2) S from funext fun S => t143 NN d v0_ (.int .i64 a1) (.int .i64 a2) S]
  unfold b143 m143
  refine okh_p (fun _ => rfl) ?_
  refine okh_loop (I := (fun (s : Bool × Int × Int × (List Int)) l L => l = [.bool s.1, .int .i64 s.2.1, .int .i64 s.2.2.1] ∧ L = sl false v0_ (s.2.2.2 : List Int) :: L0)) 0 ⟨rfl, rfl⟩ ?_ ?_ ?_
  · rintro s1 _ _ ⟨rfl, rfl⟩
    unfold s143_3 ms143_3
    refine okh_p (fun _ => rfl) ?_
    refine okh_if (fun h11 => ?_) (fun h11 => ?_)
    · refine okh_cut (I := (fun (s : Bool × Int × (List Int)) l L => l = [.bool s.1, .int .i64 s.2.1] ∧ L = sl false v0_ (s.2.2 : List Int) :: L0)) ?_ ?_ ?_ ?_
      · refine okh_loop (I := (fun (s : Int) l L => l = [.int .i64 s] ∧ L = sl false v0_ (s1.2.2.2 : List Int) :: L0)) 0 ⟨rfl, rfl⟩ ?_ ?_ ?_
        · rintro s3 _ _ ⟨rfl, rfl⟩
          unfold s143_0 ms143_0
          refine okh_cut (I := (fun (s : Bool) l L => l = [.bool s] ∧ L = sl false v0_ (s1.2.2.2 : List Int) :: L0)) ?_ ?_ ?_ ?_
          · refine okh_cut (I := (fun (s : Bool) l L => l = [.bool s] ∧ L = sl false v0_ (s1.2.2.2 : List Int) :: L0)) ?_ ?_ ?_ ?_
            · refine okh_p (fun _ => rfl) ?_
              refine okh_gT (fun h1 => ?_) (fun h1 => ?_)
              · refine okh_ixo 0 rfl rfl fun x1 hx1 => ?_
                refine okh_ldo 0 rfl hx1 rfl ?_
                refine okh_p (fun _ => rfl) ?_
                refine okh_ixo 0 rfl rfl fun x2 hx2 => ?_
                refine okh_ldo 0 rfl hx2 rfl ?_
                refine okh_c0 (mg := m144 x1 x2) (E := (fun (t : Bool) => AV.bool t)) (fun S hS => args2 (M := fun a => Fit (R NN d 144 a []) _ _) (cv_p rfl) (cv_p rfl) hS fun l0_ l1_ => w144 (by omega) x1 x2) fun y1 hy1 => ?_
                refine okh_p (fun _ => rfl) ?_
                exact okh_norm 0 ⟨rfl, rfl⟩
              · exact okh_norm 0 ⟨rfl, rfl⟩
            · rintro s6 _ _ ⟨rfl, rfl⟩
              refine okh_if (fun h2 => ?_) (fun h2 => ?_)
              · exact okh_norm 0 ⟨rfl, rfl⟩
              · exact okh_exit 0 ⟨rfl, rfl⟩
            · rintro i1 s6 _ _ ⟨rfl, rfl⟩
              exact okh_exit 0 ⟨rfl, rfl⟩
            · rintro s6 _ _ ⟨rfl, rfl⟩
              exact okh_lret 0 ⟨rfl, rfl⟩
          · rintro s7 _ _ ⟨rfl, rfl⟩
            refine okh_p (fun _ => rfl) ?_
            exact okh_norm 0 ⟨rfl, rfl⟩
          · rintro i2 s7 _ _ ⟨rfl, rfl⟩
            exact okh_exit 0 ⟨rfl, rfl⟩
          · rintro s7 _ _ ⟨rfl, rfl⟩
            exact okh_lret 0 ⟨rfl, rfl⟩
        · rintro i3 s8 _ _ ⟨rfl, rfl⟩
          refine okh_ite (fun _ => ?_) (fun _ => ?_)
          · refine okh_p (fun _ => rfl) ?_
            refine okh_if (fun h10 => ?_) (fun h10 => ?_)
            · exact okh_lret 0 ⟨rfl, rfl⟩
            · refine okh_p (fun _ => rfl) ?_
              refine okh_p (fun _ => rfl) ?_
              refine okh_if (fun h9 => ?_) (fun h9 => ?_)
              · exact okh_lret 0 ⟨rfl, rfl⟩
              · refine okh_p (fun _ => rfl) ?_
                refine okh_p (fun _ => rfl) ?_
                refine okh_ixo 0 rfl rfl fun x3 hx3 => ?_
                refine okh_ldo 0 rfl hx3 rfl ?_
                refine okh_ixo 0 rfl rfl fun x4 hx4 => ?_
                refine okh_ldo 0 rfl hx4 rfl ?_
                refine okh_ixo 0 rfl rfl fun x5 hx5 => ?_
                refine okh_stoe (y := x3) 0 rfl rfl hx5 rfl (by decide) ?_
                refine okh_ixo 0 rfl rfl fun x6 hx6 => ?_
                refine okh_stoe (y := x4) 0 rfl rfl hx6 rfl (by decide) ?_
                refine okh_cut (I := (fun (s : (List Int)) l L => l = [] ∧ L = sl false v0_ (s : List Int) :: L0)) ?_ ?_ ?_ ?_
                · refine okh_p (fun _ => rfl) ?_
                  refine okh_p (fun _ => rfl) ?_
                  refine okh_if (fun h5 => ?_) (fun h5 => ?_)
                  · refine okh_p (fun _ => rfl) ?_
                    refine okh_loop (I := (fun (s : Int × (List Int)) l L => l = [.int .i64 s.1] ∧ L = sl false v0_ (s.2 : List Int) :: L0)) 0 ⟨rfl, rfl⟩ ?_ ?_ ?_
                    · rintro s10 _ _ ⟨rfl, rfl⟩
                      unfold s143_1 ms143_1
                      refine okh_p (fun _ => rfl) ?_
                      refine okh_if (fun h4 => ?_) (fun h4 => ?_)
                      · refine okh_ixo 0 rfl rfl fun x7 hx7 => ?_
                        refine okh_ldo 0 rfl hx7 rfl ?_
                        refine okh_p (fun _ => rfl) ?_
                        refine okh_ixo 0 rfl rfl fun x8 hx8 => ?_
                        refine okh_ldo 0 rfl hx8 rfl ?_
                        refine okh_c0 (mg := m144 x7 x8) (E := (fun (t : Bool) => AV.bool t)) (fun S hS => args2 (M := fun a => Fit (R NN d 144 a []) _ _) (cv_p rfl) (cv_p rfl) hS fun l0_ l1_ => w144 (by omega) x7 x8) fun y2 hy2 => ?_
                        refine okh_p (fun _ => rfl) ?_
                        refine okh_if (fun h3 => ?_) (fun h3 => ?_)
                        · exact okh_exit 0 ⟨rfl, rfl⟩
                        · refine okh_p (fun _ => rfl) ?_
                          refine okh_p (fun _ => rfl) ?_
                          refine okh_ixo 0 rfl rfl fun x9 hx9 => ?_
                          refine okh_ldo 0 rfl hx9 rfl ?_
                          refine okh_ixo 0 rfl rfl fun x10 hx10 => ?_
                          refine okh_ldo 0 rfl hx10 rfl ?_
                          refine okh_ixo 0 rfl rfl fun x11 hx11 => ?_
                          refine okh_stoe (y := x9) 0 rfl rfl hx11 rfl (by decide) ?_
                          refine okh_ixo 0 rfl rfl fun x12 hx12 => ?_
                          refine okh_stoe (y := x10) 0 rfl rfl hx12 rfl (by decide) ?_
                          refine okh_p (fun _ => rfl) ?_
                          exact okh_norm 0 ⟨rfl, rfl⟩
                      · exact okh_exit 0 ⟨rfl, rfl⟩
                    · rintro i4 s11 _ _ ⟨rfl, rfl⟩
                      refine okh_ite (fun _ => ?_) (fun _ => ?_)
                      · exact okh_norm 0 ⟨rfl, rfl⟩
                      · exact okh_exit 0 ⟨rfl, rfl⟩
                    · rintro s11 _ _ ⟨rfl, rfl⟩
                      exact okh_lret 0 ⟨rfl, rfl⟩
                  · exact okh_norm 0 ⟨rfl, rfl⟩
                · rintro s12 _ _ ⟨rfl, rfl⟩
                  refine okh_p (fun _ => rfl) ?_
                  refine okh_p (fun _ => rfl) ?_
                  refine okh_if (fun h8 => ?_) (fun h8 => ?_)
                  · refine okh_p (fun _ => rfl) ?_
                    refine okh_loop (I := (fun (s : Int × (List Int)) l L => l = [.int .i64 s.1] ∧ L = sl false v0_ (s.2 : List Int) :: L0)) 0 ⟨rfl, rfl⟩ ?_ ?_ ?_
                    · rintro s13 _ _ ⟨rfl, rfl⟩
                      unfold s143_2 ms143_2
                      refine okh_p (fun _ => rfl) ?_
                      refine okh_if (fun h7 => ?_) (fun h7 => ?_)
                      · refine okh_ixo 0 rfl rfl fun x13 hx13 => ?_
                        refine okh_ldo 0 rfl hx13 rfl ?_
                        refine okh_p (fun _ => rfl) ?_
                        refine okh_ixo 0 rfl rfl fun x14 hx14 => ?_
                        refine okh_ldo 0 rfl hx14 rfl ?_
                        refine okh_c0 (mg := m144 x13 x14) (E := (fun (t : Bool) => AV.bool t)) (fun S hS => args2 (M := fun a => Fit (R NN d 144 a []) _ _) (cv_p rfl) (cv_p rfl) hS fun l0_ l1_ => w144 (by omega) x13 x14) fun y3 hy3 => ?_
                        refine okh_p (fun _ => rfl) ?_
                        refine okh_if (fun h6 => ?_) (fun h6 => ?_)
                        · exact okh_exit 0 ⟨rfl, rfl⟩
                        · refine okh_p (fun _ => rfl) ?_
                          refine okh_p (fun _ => rfl) ?_
                          refine okh_ixo 0 rfl rfl fun x15 hx15 => ?_
                          refine okh_ldo 0 rfl hx15 rfl ?_
                          refine okh_ixo 0 rfl rfl fun x16 hx16 => ?_
                          refine okh_ldo 0 rfl hx16 rfl ?_
                          refine okh_ixo 0 rfl rfl fun x17 hx17 => ?_
                          refine okh_stoe (y := x15) 0 rfl rfl hx17 rfl (by decide) ?_
                          refine okh_ixo 0 rfl rfl fun x18 hx18 => ?_
                          refine okh_stoe (y := x16) 0 rfl rfl hx18 rfl (by decide) ?_
                          refine okh_p (fun _ => rfl) ?_
                          exact okh_norm 0 ⟨rfl, rfl⟩
                      · exact okh_exit 0 ⟨rfl, rfl⟩
                    · rintro i6 s14 _ _ ⟨rfl, rfl⟩
                      refine okh_ite (fun _ => ?_) (fun _ => ?_)
                      · exact okh_norm 0 ⟨rfl, rfl⟩
                      · refine okh_ite (fun _ => ?_) (fun _ => ?_)
                        · exact okh_norm 0 ⟨rfl, rfl⟩
                        · exact okh_exit 0 ⟨rfl, rfl⟩
                    · rintro s14 _ _ ⟨rfl, rfl⟩
                      exact okh_lret 0 ⟨rfl, rfl⟩
                  · exact okh_norm 0 ⟨rfl, rfl⟩
                · rintro i5 s12 _ _ ⟨rfl, rfl⟩
                  refine okh_ite (fun _ => ?_) (fun _ => ?_)
                  · exact okh_norm 0 ⟨rfl, rfl⟩
                  · exact okh_exit 0 ⟨rfl, rfl⟩
                · rintro s12 _ _ ⟨rfl, rfl⟩
                  exact okh_lret 0 ⟨rfl, rfl⟩
          · refine okh_ite (fun _ => ?_) (fun _ => ?_)
            · exact okh_norm 0 ⟨rfl, rfl⟩
            · exact okh_exit 0 ⟨rfl, rfl⟩
        · rintro s8 _ _ ⟨rfl, rfl⟩
          exact okh_lret 0 ⟨rfl, rfl⟩
      · rintro s15 _ _ ⟨rfl, rfl⟩
        refine okh_p (fun _ => rfl) ?_
        exact okh_norm 0 ⟨rfl, rfl⟩
      · rintro i7 s15 _ _ ⟨rfl, rfl⟩
        exact okh_exit 0 ⟨rfl, rfl⟩
      · rintro s15 _ _ ⟨rfl, rfl⟩
        exact okh_lret 0 ⟨rfl, rfl⟩
    · exact okh_exit 0 ⟨rfl, rfl⟩
  · rintro i8 s16 _ _ ⟨rfl, rfl⟩
    refine okh_ite (fun _ => ?_) (fun _ => ?_)
    · exact okh_ret2 0 rfl rfl
    · exact okh_none
  · rintro s16 _ _ ⟨rfl, rfl⟩
    exact okh_ret2 0 rfl rfl
/- slices.partitionEqualOrdered[int64] -/
noncomputable def ms145_0 (a1 : Int) (s1 : Int × Int × (List Int)) (s2 : Int) : Option (LO (Int)) :=
  (
    (
      bif decide (s2 ≤ s1.2.1) then
        (getI s1.2.2 a1).bind fun x5 =>
        (getI s1.2.2 s2).bind fun x6 =>
        (m144 x5 x6).bind fun y1 =>
        some (LO.norm (!y1))
      else
        some (LO.norm false)).bind (contO (fun s5 =>
      bif s5 then
        some (LO.norm s5)
      else
        some (LO.exit 2 s5)) (fun i1 s5 =>
      some (LO.exit i1 s5)) (fun s5 =>
      some (LO.ret s5)))).bind (contO (fun s6 =>
    some (LO.norm (wi .i64 (s2 + 1)))) (fun i2 s6 =>
    some (LO.exit i2 s2)) (fun s6 =>
    some (LO.ret s2)))
noncomputable def ms145_1 (a1 : Int) (s1 : Int × Int × (List Int)) (s7 : Int) (s8 : Int) : Option (LO (Int)) :=
  (
    (
      bif decide (s7 ≤ s8) then
        (getI s1.2.2 a1).bind fun x7 =>
        (getI s1.2.2 s8).bind fun x8 =>
        (m144 x7 x8).bind fun y2 =>
        some (LO.norm y2)
      else
        some (LO.norm false)).bind (contO (fun s11 =>
      bif s11 then
        some (LO.norm s11)
      else
        some (LO.exit 4 s11)) (fun i4 s11 =>
      some (LO.exit i4 s11)) (fun s11 =>
      some (LO.ret s11)))).bind (contO (fun s12 =>
    some (LO.norm (wi .i64 (s8 - 1)))) (fun i5 s12 =>
    some (LO.exit i5 s8)) (fun s12 =>
    some (LO.ret s8)))
noncomputable def ms145_2 (a1 : Int) (s1 : Int × Int × (List Int)) : Option (LO (Int × Int × (List Int))) :=
  (loopO (ms145_0 a1 s1) NN s1.1).bind (contO (fun _ => none) (fun i3 s7 =>
    if i3 = 2 then
      (loopO (ms145_1 a1 s1 s7) NN s1.2.1).bind (contO (fun _ => none) (fun i6 s13 =>
        if i6 = 4 then
          bif decide (s7 > s13) then
            some (LO.exit 0 (s7, s13, s1.2.2))
          else
            (getI s1.2.2 s13).bind fun x9 =>
            (getI s1.2.2 s7).bind fun x10 =>
            (getI s1.2.2 s7).bind fun x11 =>
            (getI (s1.2.2.set (Int.toNat s7) x9) s13).bind fun x12 =>
            some (LO.norm (wi .i64 (s7 + 1), wi .i64 (s13 - 1), (s1.2.2.set (Int.toNat s7) x9).set (Int.toNat s13) x10))
        else
          if i6 = 1 then
            some (LO.norm (s7, s13, s1.2.2))
          else
            some (LO.exit i6 (s7, s13, s1.2.2))) (fun s13 =>
        some (LO.ret (s7, s13, s1.2.2))))
    else
      if i3 = 1 then
        some (LO.norm (s7, s1.2.1, s1.2.2))
      else
        some (LO.exit i3 (s7, s1.2.1, s1.2.2))) (fun s7 =>
    some (LO.ret (s7, s1.2.1, s1.2.2))))
noncomputable def m145 (a0 : List Int) (a1 : Int) (a2 : Int) (a3 : Int) : Option (Int × (List Int)) :=
  (getI a0 a3).bind fun x1 =>
  (getI a0 a1).bind fun x2 =>
  (getI a0 a1).bind fun x3 =>
  (getI (a0.set (Int.toNat a1) x1) a3).bind fun x4 =>
  (loopO (ms145_2 a1) NN (wi .i64 (a1 + 1), wi .i64 (a2 - 1), (a0.set (Int.toNat a1) x1).set (Int.toNat a3) x2)).bind (contO (fun _ => none) (fun i7 s14 =>
    if i7 = 0 then
      some (s14.1, s14.2.2)
    else
      none) (fun s14 =>
    some (0, s14.2.2)))
theorem w145 {d : Nat} (hd : 3 ≤ d) (L0 : List En) (v0_ : AV) (a0 : List Int) (a1 : Int) (a2 : Int) (a3 : Int) : Okh (sl false v0_ (a0 : List Int) :: L0) (fun S => R NN d 145 [v0_, .int .i64 a1, .int .i64 a2, .int .i64 a3] S) (m145 a0 a1 a2 a3) (P2 (fun (t : Int × (List Int)) => AV.int .i64 t.1) (fun (t : Int × (List Int)) => sl false v0_ t.2 :: L0)) := by
  obtain ⟨d, rfl, g⟩ := up hd
  rw [show (fun S => R NN (d + 1) 145 [v0_, .int .i64 a1, .int .i64 a2, .int .i64 a3] S) = fun S => b145 (cfg NN) (R NN d) (v0_) (.int .i64 a1) (.int .i64 a2) (.int .i64 a3) S from funext fun S => t145 NN d v0_ (.int .i64 a1) (.int .i64 a2) (.int .i64 a3) S]
  unfold b145 m145
  refine okh_ixo 0 rfl rfl fun x1 hx1 => ?_
  refine okh_ldo 0 rfl hx1 rfl ?_
  refine okh_ixo 0 rfl rfl fun x2 hx2 => ?_
  refine okh_ldo 0 rfl hx2 rfl ?_
  refine okh_ixo 0 rfl rfl fun x3 hx3 => ?_
  refine okh_stoe (y := x1) 0 rfl rfl hx3 rfl (by decide) ?_
  refine okh_ixo 0 rfl rfl fun x4 hx4 => ?_
  refine okh_stoe (y := x2) 0 rfl rfl hx4 rfl (by decide) ?_
  refine okh_p (fun _ => rfl) ?_
  refine okh_p (fun _ => rfl) ?_
  refine okh_loop (I := (fun (s : Int × Int × (List Int)) l L => l = [.int .i64 s.1, .int .i64 s.2.1] ∧ L = sl false v0_ (s.2.2 : List Int) :: L0)) 0 ⟨rfl, rfl⟩ ?_ ?_ ?_
  · rintro s1 _ _ ⟨rfl, rfl⟩
    unfold s145_2 ms145_2
    refine okh_loop (I := (fun (s : Int) l L => l = [.int .i64 s] ∧ L = sl false v0_ (s1.2.2 : List Int) :: L0)) 0 ⟨rfl, rfl⟩ ?_ ?_ ?_
    · rintro s2 _ _ ⟨rfl, rfl⟩
      unfold s145_0 ms145_0
      refine okh_cut (I := (fun (s : Bool) l L => l = [.bool s] ∧ L = sl false v0_ (s1.2.2 : List Int) :: L0)) ?_ ?_ ?_ ?_
      · refine okh_cut (I := (fun (s : Bool) l L => l = [.bool s] ∧ L = sl false v0_ (s1.2.2 : List Int) :: L0)) ?_ ?_ ?_ ?_
        · refine okh_p (fun _ => rfl) ?_
          refine okh_gT (fun h1 => ?_) (fun h1 => ?_)
          · refine okh_ixo 0 rfl rfl fun x5 hx5 => ?_
            refine okh_ldo 0 rfl hx5 rfl ?_
            refine okh_ixo 0 rfl rfl fun x6 hx6 => ?_
            refine okh_ldo 0 rfl hx6 rfl ?_
            refine okh_c0 (mg := m144 x5 x6) (E := (fun (t : Bool) => AV.bool t)) (fun S hS => args2 (M := fun a => Fit (R NN d 144 a []) _ _) (cv_p rfl) (cv_p rfl) hS fun l0_ l1_ => w144 (by omega) x5 x6) fun y1 hy1 => ?_
            refine okh_p (fun _ => rfl) ?_
            exact okh_norm 0 ⟨rfl, rfl⟩
          · exact okh_norm 0 ⟨rfl, rfl⟩
        · rintro s5 _ _ ⟨rfl, rfl⟩
          refine okh_if (fun h2 => ?_) (fun h2 => ?_)
          · exact okh_norm 0 ⟨rfl, rfl⟩
          · exact okh_exit 0 ⟨rfl, rfl⟩
        · rintro i1 s5 _ _ ⟨rfl, rfl⟩
          exact okh_exit 0 ⟨rfl, rfl⟩
        · rintro s5 _ _ ⟨rfl, rfl⟩
          exact okh_lret 0 ⟨rfl, rfl⟩
      · rintro s6 _ _ ⟨rfl, rfl⟩
        refine okh_p (fun _ => rfl) ?_
        exact okh_norm 0 ⟨rfl, rfl⟩
      · rintro i2 s6 _ _ ⟨rfl, rfl⟩
        exact okh_exit 0 ⟨rfl, rfl⟩
      · rintro s6 _ _ ⟨rfl, rfl⟩
        exact okh_lret 0 ⟨rfl, rfl⟩
    · rintro i3 s7 _ _ ⟨rfl, rfl⟩
      refine okh_ite (fun _ => ?_) (fun _ => ?_)
      · refine okh_loop (I := (fun (s : Int) l L => l = [.int .i64 s] ∧ L = sl false v0_ (s1.2.2 : List Int) :: L0)) 0 ⟨rfl, rfl⟩ ?_ ?_ ?_
        · rintro s8 _ _ ⟨rfl, rfl⟩
          unfold s145_1 ms145_1
          refine okh_cut (I := (fun (s : Bool) l L => l = [.bool s] ∧ L = sl false v0_ (s1.2.2 : List Int) :: L0)) ?_ ?_ ?_ ?_
          · refine okh_cut (I := (fun (s : Bool) l L => l = [.bool s] ∧ L = sl false v0_ (s1.2.2 : List Int) :: L0)) ?_ ?_ ?_ ?_
            · refine okh_p (fun _ => rfl) ?_
              refine okh_gT (fun h3 => ?_) (fun h3 => ?_)
              · refine okh_ixo 0 rfl rfl fun x7 hx7 => ?_
                refine okh_ldo 0 rfl hx7 rfl ?_
                refine okh_ixo 0 rfl rfl fun x8 hx8 => ?_
                refine okh_ldo 0 rfl hx8 rfl ?_
                refine okh_c0 (mg := m144 x7 x8) (E := (fun (t : Bool) => AV.bool t)) (fun S hS => args2 (M := fun a => Fit (R NN d 144 a []) _ _) (cv_p rfl) (cv_p rfl) hS fun l0_ l1_ => w144 (by omega) x7 x8) fun y2 hy2 => ?_
                exact okh_norm 0 ⟨rfl, rfl⟩
              · exact okh_norm 0 ⟨rfl, rfl⟩
            · rintro s11 _ _ ⟨rfl, rfl⟩
              refine okh_if (fun h4 => ?_) (fun h4 => ?_)
              · exact okh_norm 0 ⟨rfl, rfl⟩
              · exact okh_exit 0 ⟨rfl, rfl⟩
            · rintro i4 s11 _ _ ⟨rfl, rfl⟩
              exact okh_exit 0 ⟨rfl, rfl⟩
            · rintro s11 _ _ ⟨rfl, rfl⟩
              exact okh_lret 0 ⟨rfl, rfl⟩
          · rintro s12 _ _ ⟨rfl, rfl⟩
            refine okh_p (fun _ => rfl) ?_
            exact okh_norm 0 ⟨rfl, rfl⟩
          · rintro i5 s12 _ _ ⟨rfl, rfl⟩
            exact okh_exit 0 ⟨rfl, rfl⟩
          · rintro s12 _ _ ⟨rfl, rfl⟩
            exact okh_lret 0 ⟨rfl, rfl⟩
        · rintro i6 s13 _ _ ⟨rfl, rfl⟩
          refine okh_ite (fun _ => ?_) (fun _ => ?_)
          · refine okh_p (fun _ => rfl) ?_
            refine okh_if (fun h5 => ?_) (fun h5 => ?_)
            · exact okh_exit 0 ⟨rfl, rfl⟩
            · refine okh_ixo 0 rfl rfl fun x9 hx9 => ?_
              refine okh_ldo 0 rfl hx9 rfl ?_
              refine okh_ixo 0 rfl rfl fun x10 hx10 => ?_
              refine okh_ldo 0 rfl hx10 rfl ?_
              refine okh_ixo 0 rfl rfl fun x11 hx11 => ?_
              refine okh_stoe (y := x9) 0 rfl rfl hx11 rfl (by decide) ?_
              refine okh_ixo 0 rfl rfl fun x12 hx12 => ?_
              refine okh_stoe (y := x10) 0 rfl rfl hx12 rfl (by decide) ?_
              refine okh_p (fun _ => rfl) ?_
              refine okh_p (fun _ => rfl) ?_
              exact okh_norm 0 ⟨rfl, rfl⟩
          · refine okh_ite (fun _ => ?_) (fun _ => ?_)
            · exact okh_norm 0 ⟨rfl, rfl⟩
            · exact okh_exit 0 ⟨rfl, rfl⟩
        · rintro s13 _ _ ⟨rfl, rfl⟩
          exact okh_lret 0 ⟨rfl, rfl⟩
      · refine okh_ite (fun _ => ?_) (fun _ => ?_)
        · exact okh_norm 0 ⟨rfl, rfl⟩
        · exact okh_exit 0 ⟨rfl, rfl⟩
    · rintro s7 _ _ ⟨rfl, rfl⟩
      exact okh_lret 0 ⟨rfl, rfl⟩
  · rintro i7 s14 _ _ ⟨rfl, rfl⟩
    refine okh_ite (fun _ => ?_) (fun _ => ?_)
    · exact okh_ret2 0 rfl rfl
    · exact okh_none
  · rintro s14 _ _ ⟨rfl, rfl⟩
    exact okh_ret2 0 rfl rfl
/- slices.partitionOrdered[int64] -/
noncomputable def ms146_0 (a0 : List Int) (a1 : Int) (a2 : Int) (a3 : Int) (x1 : Int) (x2 : Int) (s1 : Int) : Option (LO (Int)) :=
  (
    (
      bif decide (s1 ≤ (wi .i64 (a2 - 1))) then
        (getI ((a0.set (Int.toNat a1) x1).set (Int.toNat a3) x2) s1).bind fun x5 =>
        (getI ((a0.set (Int.toNat a1) x1).set (Int.toNat a3) x2) a1).bind fun x6 =>
        (m144 x5 x6).bind fun y1 =>
        some (LO.norm y1)
      else
        some (LO.norm false)).bind (contO (fun s4 =>
      bif s4 then
        some (LO.norm s4)
      else
        some (LO.exit 0 s4)) (fun i1 s4 =>
      some (LO.exit i1 s4)) (fun s4 =>
      some (LO.ret s4)))).bind (contO (fun s5 =>
    some (LO.norm (wi .i64 (s1 + 1)))) (fun i2 s5 =>
    some (LO.exit i2 s1)) (fun s5 =>
    some (LO.ret s1)))
noncomputable def ms146_1 (a0 : List Int) (a1 : Int) (a3 : Int) (s6 : Int) (x1 : Int) (x2 : Int) (s7 : Int) : Option (LO (Int)) :=
  (
    (
      bif decide (s6 ≤ s7) then
        (getI ((a0.set (Int.toNat a1) x1).set (Int.toNat a3) x2) s7).bind fun x7 =>
        (getI ((a0.set (Int.toNat a1) x1).set (Int.toNat a3) x2) a1).bind fun x8 =>
        (m144 x7 x8).bind fun y2 =>
        some (LO.norm (!y2))
      else
        some (LO.norm false)).bind (contO (fun s10 =>
      bif s10 then
        some (LO.norm s10)
      else
        some (LO.exit 2 s10)) (fun i4 s10 =>
      some (LO.exit i4 s10)) (fun s10 =>
      some (LO.ret s10)))).bind (contO (fun s11 =>
    some (LO.norm (wi .i64 (s7 - 1)))) (fun i5 s11 =>
    some (LO.exit i5 s7)) (fun s11 =>
    some (LO.ret s7)))
noncomputable def ms146_2 (a1 : Int) (s13 : Int × Int × (List Int)) (s14 : Int) : Option (LO (Int)) :=
  (
    (
      bif decide (s14 ≤ s13.2.1) then
        (getI s13.2.2 s14).bind fun x17 =>
        (getI s13.2.2 a1).bind fun x18 =>
        (m144 x17 x18).bind fun y3 =>
        some (LO.norm y3)
      else
        some (LO.norm false)).bind (contO (fun s17 =>
      bif s17 then
        some (LO.norm s17)
      else
        some (LO.exit 6 s17)) (fun i7 s17 =>
      some (LO.exit i7 s17)) (fun s17 =>
      some (LO.ret s17)))).bind (contO (fun s18 =>
    some (LO.norm (wi .i64 (s14 + 1)))) (fun i8 s18 =>
    some (LO.exit i8 s14)) (fun s18 =>
    some (LO.ret s14)))
noncomputable def ms146_3 (a1 : Int) (s13 : Int × Int × (List Int)) (s19 : Int) (s20 : Int) : Option (LO (Int)) :=
  (
    (
      bif decide (s19 ≤ s20) then
        (getI s13.2.2 s20).bind fun x19 =>
        (getI s13.2.2 a1).bind fun x20 =>
        (m144 x19 x20).bind fun y4 =>
        some (LO.norm (!y4))
      else
        some (LO.norm false)).bind (contO (fun s23 =>
      bif s23 then
        some (LO.norm s23)
      else
        some (LO.exit 8 s23)) (fun i10 s23 =>
      some (LO.exit i10 s23)) (fun s23 =>
      some (LO.ret s23)))).bind (contO (fun s24 =>
    some (LO.norm (wi .i64 (s20 - 1)))) (fun i11 s24 =>
    some (LO.exit i11 s20)) (fun s24 =>
    some (LO.ret s20)))
noncomputable def ms146_4 (a1 : Int) (s13 : Int × Int × (List Int)) : Option (LO (Int × Int × (List Int))) :=
  (loopO (ms146_2 a1 s13) NN s13.1).bind (contO (fun _ => none) (fun i9 s19 =>
    if i9 = 6 then
      (loopO (ms146_3 a1 s13 s19) NN s13.2.1).bind (contO (fun _ => none) (fun i12 s25 =>
        if i12 = 8 then
          bif decide (s19 > s25) then
            some (LO.exit 4 (s19, s25, s13.2.2))
          else
            (getI s13.2.2 s25).bind fun x21 =>
            (getI s13.2.2 s19).bind fun x22 =>
            (getI s13.2.2 s19).bind fun x23 =>
            (getI (s13.2.2.set (Int.toNat s19) x21) s25).bind fun x24 =>
            some (LO.norm (wi .i64 (s19 + 1), wi .i64 (s25 - 1), (s13.2.2.set (Int.toNat s19) x21).set (Int.toNat s25) x22))
        else
          if i12 = 5 then
            some (LO.norm (s19, s25, s13.2.2))
          else
            some (LO.exit i12 (s19, s25, s13.2.2))) (fun s25 =>
        some (LO.ret (s19, s25, s13.2.2))))
    else
      if i9 = 5 then
        some (LO.norm (s19, s13.2.1, s13.2.2))
      else
        some (LO.exit i9 (s19, s13.2.1, s13.2.2))) (fun s19 =>
    some (LO.ret (s19, s13.2.1, s13.2.2))))
noncomputable def m146 (a0 : List Int) (a1 : Int) (a2 : Int) (a3 : Int) : Option (Int × Bool × (List Int)) :=
  (getI a0 a3).bind fun x1 =>
  (getI a0 a1).bind fun x2 =>
  (getI a0 a1).bind fun x3 =>
  (getI (a0.set (Int.toNat a1) x1) a3).bind fun x4 =>
  (loopO (ms146_0 a0 a1 a2 a3 x1 x2) NN (wi .i64 (a1 + 1))).bind (contO (fun _ => none) (fun i3 s6 =>
    if i3 = 0 then
      (loopO (ms146_1 a0 a1 a3 s6 x1 x2) NN (wi .i64 (a2 - 1))).bind (contO (fun _ => none) (fun i6 s12 =>
        if i6 = 2 then
          bif decide (s6 > s12) then
            (getI ((a0.set (Int.toNat a1) x1).set (Int.toNat a3) x2) a1).bind fun x9 =>
            (getI ((a0.set (Int.toNat a1) x1).set (Int.toNat a3) x2) s12).bind fun x10 =>
            (getI ((a0.set (Int.toNat a1) x1).set (Int.toNat a3) x2) s12).bind fun x11 =>
            (getI (((a0.set (Int.toNat a1) x1).set (Int.toNat a3) x2).set (Int.toNat s12) x9) a1).bind fun x12 =>
            some (s12, true, (((a0.set (Int.toNat a1) x1).set (Int.toNat a3) x2).set (Int.toNat s12) x9).set (Int.toNat a1) x10)
          else
            (getI ((a0.set (Int.toNat a1) x1).set (Int.toNat a3) x2) s12).bind fun x13 =>
            (getI ((a0.set (Int.toNat a1) x1).set (Int.toNat a3) x2) s6).bind fun x14 =>
            (getI ((a0.set (Int.toNat a1) x1).set (Int.toNat a3) x2) s6).bind fun x15 =>
            (getI (((a0.set (Int.toNat a1) x1).set (Int.toNat a3) x2).set (Int.toNat s6) x13) s12).bind fun x16 =>
            (loopO (ms146_4 a1) NN (wi .i64 (s6 + 1), wi .i64 (s12 - 1), (((a0.set (Int.toNat a1) x1).set (Int.toNat a3) x2).set (Int.toNat s6) x13).set (Int.toNat s12) x14)).bind (contO (fun _ => none) (fun i13 s26 =>
              if i13 = 4 then
                (getI s26.2.2 a1).bind fun x25 =>
                (getI s26.2.2 s26.2.1).bind fun x26 =>
                (getI s26.2.2 s26.2.1).bind fun x27 =>
                (getI (s26.2.2.set (Int.toNat s26.2.1) x25) a1).bind fun x28 =>
                some (s26.2.1, false, (s26.2.2.set (Int.toNat s26.2.1) x25).set (Int.toNat a1) x26)
              else
                none) (fun s26 =>
              some (0, false, s26.2.2)))
        else
          none) (fun s12 =>
        some (0, false, (a0.set (Int.toNat a1) x1).set (Int.toNat a3) x2)))
    else
      none) (fun s6 =>
    some (0, false, (a0.set (Int.toNat a1) x1).set (Int.toNat a3) x2)))
theorem w146 {d : Nat} (hd : 3 ≤ d) (L0 : List En) (v0_ : AV) (a0 : List Int) (a1 : Int) (a2 : Int) (a3 : Int) : Okh (sl false v0_ (a0 : List Int) :: L0) (fun S => R NN d 146 [v0_, .int .i64 a1, .int .i64 a2, .int .i64 a3] S) (m146 a0 a1 a2 a3) (P2 (fun (t : Int × Bool × (List Int)) => AV.tup [.int .i64 t.1, .bool t.2.1]) (fun (t : Int × Bool × (List Int)) => sl false v0_ t.2.2 :: L0)) := by
  obtain ⟨d, rfl, g⟩ := up hd
  rw [show (fun S => R NN (d + 1) 146 [v0_, .int .i64 a1, .int .i64 a2, .int .i64 a3] S) = fun S => b146 (cfg NN) (R NN d) (v0_) (.int .i64 a1) (.int .i64 a2) (.int .i64 a3) S from funext fun S => t146 NN d v0_ (.int .i64 a1) (.int .i64 a2) (.int .i64 a3) S]
  unfold b146 m146
  refine okh_ixo 0 rfl rfl fun x1 hx1 => ?_
  refine okh_ldo 0 rfl hx1 rfl ?_
  refine okh_ixo 0 rfl rfl fun x2 hx2 => ?_
  refine okh_ldo 0 rfl hx2 rfl ?_
  refine okh_ixo 0 rfl rfl fun x3 hx3 => ?_
  refine okh_stoe (y := x1) 0 rfl rfl hx3 rfl (by decide) ?_
  refine okh_ixo 0 rfl rfl fun x4 hx4 => ?_
  refine okh_stoe (y := x2) 0 rfl rfl hx4 rfl (by decide) ?_
  refine okh_p (fun _ => rfl) ?_
  refine okh_p (fun _ => rfl) ?_
  refine okh_loop (I := (fun (s : Int) l L => l = [.int .i64 s] ∧ L = sl false v0_ ((a0.set (Int.toNat a1) x1).set (Int.toNat a3) x2 : List Int) :: L0)) 0 ⟨rfl, rfl⟩ ?_ ?_ ?_
  · rintro s1 _ _ ⟨rfl, rfl⟩
    unfold s146_0 ms146_0
    refine okh_cut (I := (fun (s : Bool) l L => l = [.bool s] ∧ L = sl false v0_ ((a0.set (Int.toNat a1) x1).set (Int.toNat a3) x2 : List Int) :: L0)) ?_ ?_ ?_ ?_
    · refine okh_cut (I := (fun (s : Bool) l L => l = [.bool s] ∧ L = sl false v0_ ((a0.set (Int.toNat a1) x1).set (Int.toNat a3) x2 : List Int) :: L0)) ?_ ?_ ?_ ?_
      · refine okh_p (fun _ => rfl) ?_
        refine okh_gT (fun h1 => ?_) (fun h1 => ?_)
        · refine okh_ixo 0 rfl rfl fun x5 hx5 => ?_
          refine okh_ldo 0 rfl hx5 rfl ?_
          refine okh_ixo 0 rfl rfl fun x6 hx6 => ?_
          refine okh_ldo 0 rfl hx6 rfl ?_
          refine okh_c0 (mg := m144 x5 x6) (E := (fun (t : Bool) => AV.bool t)) (fun S hS => args2 (M := fun a => Fit (R NN d 144 a []) _ _) (cv_p rfl) (cv_p rfl) hS fun l0_ l1_ => w144 (by omega) x5 x6) fun y1 hy1 => ?_
          exact okh_norm 0 ⟨rfl, rfl⟩
        · exact okh_norm 0 ⟨rfl, rfl⟩
      · rintro s4 _ _ ⟨rfl, rfl⟩
        refine okh_if (fun h2 => ?_) (fun h2 => ?_)
        · exact okh_norm 0 ⟨rfl, rfl⟩
        · exact okh_exit 0 ⟨rfl, rfl⟩
      · rintro i1 s4 _ _ ⟨rfl, rfl⟩
        exact okh_exit 0 ⟨rfl, rfl⟩
      · rintro s4 _ _ ⟨rfl, rfl⟩
        exact okh_lret 0 ⟨rfl, rfl⟩
    · rintro s5 _ _ ⟨rfl, rfl⟩
      refine okh_p (fun _ => rfl) ?_
      exact okh_norm 0 ⟨rfl, rfl⟩
    · rintro i2 s5 _ _ ⟨rfl, rfl⟩
      exact okh_exit 0 ⟨rfl, rfl⟩
    · rintro s5 _ _ ⟨rfl, rfl⟩
      exact okh_lret 0 ⟨rfl, rfl⟩
  · rintro i3 s6 _ _ ⟨rfl, rfl⟩
    refine okh_ite (fun _ => ?_) (fun _ => ?_)
    · refine okh_loop (I := (fun (s : Int) l L => l = [.int .i64 s] ∧ L = sl false v0_ ((a0.set (Int.toNat a1) x1).set (Int.toNat a3) x2 : List Int) :: L0)) 0 ⟨rfl, rfl⟩ ?_ ?_ ?_
      · rintro s7 _ _ ⟨rfl, rfl⟩
        unfold s146_1 ms146_1
        refine okh_cut (I := (fun (s : Bool) l L => l = [.bool s] ∧ L = sl false v0_ ((a0.set (Int.toNat a1) x1).set (Int.toNat a3) x2 : List Int) :: L0)) ?_ ?_ ?_ ?_
        · refine okh_cut (I := (fun (s : Bool) l L => l = [.bool s] ∧ L = sl false v0_ ((a0.set (Int.toNat a1) x1).set (Int.toNat a3) x2 : List Int) :: L0)) ?_ ?_ ?_ ?_
          · refine okh_p (fun _ => rfl) ?_
            refine okh_gT (fun h3 => ?_) (fun h3 => ?_)
            · refine okh_ixo 0 rfl rfl fun x7 hx7 => ?_
              refine okh_ldo 0 rfl hx7 rfl ?_
              refine okh_ixo 0 rfl rfl fun x8 hx8 => ?_
              refine okh_ldo 0 rfl hx8 rfl ?_
              refine okh_c0 (mg := m144 x7 x8) (E := (fun (t : Bool) => AV.bool t)) (fun S hS => args2 (M := fun a => Fit (R NN d 144 a []) _ _) (cv_p rfl) (cv_p rfl) hS fun l0_ l1_ => w144 (by omega) x7 x8) fun y2 hy2 => ?_
              refine okh_p (fun _ => rfl) ?_
              exact okh_norm 0 ⟨rfl, rfl⟩
            · exact okh_norm 0 ⟨rfl, rfl⟩
          · rintro s10 _ _ ⟨rfl, rfl⟩
            refine okh_if (fun h4 => ?_) (fun h4 => ?_)
            · exact okh_norm 0 ⟨rfl, rfl⟩
            · exact okh_exit 0 ⟨rfl, rfl⟩
          · rintro i4 s10 _ _ ⟨rfl, rfl⟩
            exact okh_exit 0 ⟨rfl, rfl⟩
          · rintro s10 _ _ ⟨rfl, rfl⟩
            exact okh_lret 0 ⟨rfl, rfl⟩
        · rintro s11 _ _ ⟨rfl, rfl⟩
          refine okh_p (fun _ => rfl) ?_
          exact okh_norm 0 ⟨rfl, rfl⟩
        · rintro i5 s11 _ _ ⟨rfl, rfl⟩
          exact okh_exit 0 ⟨rfl, rfl⟩
        · rintro s11 _ _ ⟨rfl, rfl⟩
          exact okh_lret 0 ⟨rfl, rfl⟩
      · rintro i6 s12 _ _ ⟨rfl, rfl⟩
        refine okh_ite (fun _ => ?_) (fun _ => ?_)
        · refine okh_p (fun _ => rfl) ?_
          refine okh_if (fun h10 => ?_) (fun h10 => ?_)
          · refine okh_ixo 0 rfl rfl fun x9 hx9 => ?_
            refine okh_ldo 0 rfl hx9 rfl ?_
            refine okh_ixo 0 rfl rfl fun x10 hx10 => ?_
            refine okh_ldo 0 rfl hx10 rfl ?_
            refine okh_ixo 0 rfl rfl fun x11 hx11 => ?_
            refine okh_stoe (y := x9) 0 rfl rfl hx11 rfl (by decide) ?_
            refine okh_ixo 0 rfl rfl fun x12 hx12 => ?_
            refine okh_stoe (y := x10) 0 rfl rfl hx12 rfl (by decide) ?_
            exact okh_ret2 0 rfl rfl
          · refine okh_ixo 0 rfl rfl fun x13 hx13 => ?_
            refine okh_ldo 0 rfl hx13 rfl ?_
            refine okh_ixo 0 rfl rfl fun x14 hx14 => ?_
            refine okh_ldo 0 rfl hx14 rfl ?_
            refine okh_ixo 0 rfl rfl fun x15 hx15 => ?_
            refine okh_stoe (y := x13) 0 rfl rfl hx15 rfl (by decide) ?_
            refine okh_ixo 0 rfl rfl fun x16 hx16 => ?_
            refine okh_stoe (y := x14) 0 rfl rfl hx16 rfl (by decide) ?_
            refine okh_p (fun _ => rfl) ?_
            refine okh_p (fun _ => rfl) ?_
            refine okh_loop (I := (fun (s : Int × Int × (List Int)) l L => l = [.int .i64 s.1, .int .i64 s.2.1] ∧ L = sl false v0_ (s.2.2 : List Int) :: L0)) 0 ⟨rfl, rfl⟩ ?_ ?_ ?_
            · rintro s13 _ _ ⟨rfl, rfl⟩
              unfold s146_4 ms146_4
              refine okh_loop (I := (fun (s : Int) l L => l = [.int .i64 s] ∧ L = sl false v0_ (s13.2.2 : List Int) :: L0)) 0 ⟨rfl, rfl⟩ ?_ ?_ ?_
              · rintro s14 _ _ ⟨rfl, rfl⟩
                unfold s146_2 ms146_2
                refine okh_cut (I := (fun (s : Bool) l L => l = [.bool s] ∧ L = sl false v0_ (s13.2.2 : List Int) :: L0)) ?_ ?_ ?_ ?_
                · refine okh_cut (I := (fun (s : Bool) l L => l = [.bool s] ∧ L = sl false v0_ (s13.2.2 : List Int) :: L0)) ?_ ?_ ?_ ?_
                  · refine okh_p (fun _ => rfl) ?_
                    refine okh_gT (fun h5 => ?_) (fun h5 => ?_)
                    · refine okh_ixo 0 rfl rfl fun x17 hx17 => ?_
                      refine okh_ldo 0 rfl hx17 rfl ?_
                      refine okh_ixo 0 rfl rfl fun x18 hx18 => ?_
                      refine okh_ldo 0 rfl hx18 rfl ?_
                      refine okh_c0 (mg := m144 x17 x18) (E := (fun (t : Bool) => AV.bool t)) (fun S hS => args2 (M := fun a => Fit (R NN d 144 a []) _ _) (cv_p rfl) (cv_p rfl) hS fun l0_ l1_ => w144 (by omega) x17 x18) fun y3 hy3 => ?_
                      exact okh_norm 0 ⟨rfl, rfl⟩
                    · exact okh_norm 0 ⟨rfl, rfl⟩
                  · rintro s17 _ _ ⟨rfl, rfl⟩
                    refine okh_if (fun h6 => ?_) (fun h6 => ?_)
                    · exact okh_norm 0 ⟨rfl, rfl⟩
                    · exact okh_exit 0 ⟨rfl, rfl⟩
                  · rintro i7 s17 _ _ ⟨rfl, rfl⟩
                    exact okh_exit 0 ⟨rfl, rfl⟩
                  · rintro s17 _ _ ⟨rfl, rfl⟩
                    exact okh_lret 0 ⟨rfl, rfl⟩
                · rintro s18 _ _ ⟨rfl, rfl⟩
                  refine okh_p (fun _ => rfl) ?_
                  exact okh_norm 0 ⟨rfl, rfl⟩
                · rintro i8 s18 _ _ ⟨rfl, rfl⟩
                  exact okh_exit 0 ⟨rfl, rfl⟩
                · rintro s18 _ _ ⟨rfl, rfl⟩
                  exact okh_lret 0 ⟨rfl, rfl⟩
              · rintro i9 s19 _ _ ⟨rfl, rfl⟩
                refine okh_ite (fun _ => ?_) (fun _ => ?_)
                · refine okh_loop (I := (fun (s : Int) l L => l = [.int .i64 s] ∧ L = sl false v0_ (s13.2.2 : List Int) :: L0)) 0 ⟨rfl, rfl⟩ ?_ ?_ ?_
                  · rintro s20 _ _ ⟨rfl, rfl⟩
                    unfold s146_3 ms146_3
                    refine okh_cut (I := (fun (s : Bool) l L => l = [.bool s] ∧ L = sl false v0_ (s13.2.2 : List Int) :: L0)) ?_ ?_ ?_ ?_
                    · refine okh_cut (I := (fun (s : Bool) l L => l = [.bool s] ∧ L = sl false v0_ (s13.2.2 : List Int) :: L0)) ?_ ?_ ?_ ?_
                      · refine okh_p (fun _ => rfl) ?_
                        refine okh_gT (fun h7 => ?_) (fun h7 => ?_)
                        · refine okh_ixo 0 rfl rfl fun x19 hx19 => ?_
                          refine okh_ldo 0 rfl hx19 rfl ?_
                          refine okh_ixo 0 rfl rfl fun x20 hx20 => ?_
                          refine okh_ldo 0 rfl hx20 rfl ?_
                          refine okh_c0 (mg := m144 x19 x20) (E := (fun (t : Bool) => AV.bool t)) (fun S hS => args2 (M := fun a => Fit (R NN d 144 a []) _ _) (cv_p rfl) (cv_p rfl) hS fun l0_ l1_ => w144 (by omega) x19 x20) fun y4 hy4 => ?_
                          refine okh_p (fun _ => rfl) ?_
                          exact okh_norm 0 ⟨rfl, rfl⟩
                        · exact okh_norm 0 ⟨rfl, rfl⟩
                      · rintro s23 _ _ ⟨rfl, rfl⟩
                        refine okh_if (fun h8 => ?_) (fun h8 => ?_)
                        · exact okh_norm 0 ⟨rfl, rfl⟩
                        · exact okh_exit 0 ⟨rfl, rfl⟩
                      · rintro i10 s23 _ _ ⟨rfl, rfl⟩
                        exact okh_exit 0 ⟨rfl, rfl⟩
                      · rintro s23 _ _ ⟨rfl, rfl⟩
                        exact okh_lret 0 ⟨rfl, rfl⟩
                    · rintro s24 _ _ ⟨rfl, rfl⟩
                      refine okh_p (fun _ => rfl) ?_
                      exact okh_norm 0 ⟨rfl, rfl⟩
                    · rintro i11 s24 _ _ ⟨rfl, rfl⟩
                      exact okh_exit 0 ⟨rfl, rfl⟩
                    · rintro s24 _ _ ⟨rfl, rfl⟩
                      exact okh_lret 0 ⟨rfl, rfl⟩
                  · rintro i12 s25 _ _ ⟨rfl, rfl⟩
                    refine okh_ite (fun _ => ?_) (fun _ => ?_)
                    · refine okh_p (fun _ => rfl) ?_
                      refine okh_if (fun h9 => ?_) (fun h9 => ?_)
                      · exact okh_exit 0 ⟨rfl, rfl⟩
                      · refine okh_ixo 0 rfl rfl fun x21 hx21 => ?_
                        refine okh_ldo 0 rfl hx21 rfl ?_
                        refine okh_ixo 0 rfl rfl fun x22 hx22 => ?_
                        refine okh_ldo 0 rfl hx22 rfl ?_
                        refine okh_ixo 0 rfl rfl fun x23 hx23 => ?_
                        refine okh_stoe (y := x21) 0 rfl rfl hx23 rfl (by decide) ?_
                        refine okh_ixo 0 rfl rfl fun x24 hx24 => ?_
                        refine okh_stoe (y := x22) 0 rfl rfl hx24 rfl (by decide) ?_
                        refine okh_p (fun _ => rfl) ?_
                        refine okh_p (fun _ => rfl) ?_
                        exact okh_norm 0 ⟨rfl, rfl⟩
                    · refine okh_ite (fun _ => ?_) (fun _ => ?_)
                      · exact okh_norm 0 ⟨rfl, rfl⟩
                      · exact okh_exit 0 ⟨rfl, rfl⟩
                  · rintro s25 _ _ ⟨rfl, rfl⟩
                    exact okh_lret 0 ⟨rfl, rfl⟩
                · refine okh_ite (fun _ => ?_) (fun _ => ?_)
                  · exact okh_norm 0 ⟨rfl, rfl⟩
                  · exact okh_exit 0 ⟨rfl, rfl⟩
              · rintro s19 _ _ ⟨rfl, rfl⟩
                exact okh_lret 0 ⟨rfl, rfl⟩
            · rintro i13 s26 _ _ ⟨rfl, rfl⟩
              refine okh_ite (fun _ => ?_) (fun _ => ?_)
              · refine okh_ixo 0 rfl rfl fun x25 hx25 => ?_
                refine okh_ldo 0 rfl hx25 rfl ?_
                refine okh_ixo 0 rfl rfl fun x26 hx26 => ?_
                refine okh_ldo 0 rfl hx26 rfl ?_
                refine okh_ixo 0 rfl rfl fun x27 hx27 => ?_
                refine okh_stoe (y := x25) 0 rfl rfl hx27 rfl (by decide) ?_
                refine okh_ixo 0 rfl rfl fun x28 hx28 => ?_
                refine okh_stoe (y := x26) 0 rfl rfl hx28 rfl (by decide) ?_
                exact okh_ret2 0 rfl rfl
              · exact okh_none
            · rintro s26 _ _ ⟨rfl, rfl⟩
              exact okh_ret2 0 rfl rfl
        · exact okh_none
      · rintro s12 _ _ ⟨rfl, rfl⟩
        exact okh_ret2 0 rfl rfl
    · exact okh_none
  · rintro s6 _ _ ⟨rfl, rfl⟩
    exact okh_ret2 0 rfl rfl
/- slices.pdqsortOrdered[int64] -/
noncomputable def ms129_0 (rec_ : (List Int) → Int → Int → Int → Option ((List Int))) (s1 : Int × Int × Int × Bool × Bool × (List Int)) : Option (LO (Int × Int × Int × Bool × Bool × (List Int))) :=
  bif decide ((wi .i64 (s1.2.1 - s1.1)) ≤ 12) then
    (m138 s1.2.2.2.2.2 s1.1 s1.2.1).bind fun y1 =>
    some (LO.ret (s1.1, s1.2.1, s1.2.2.1, s1.2.2.2.1, s1.2.2.2.2.1, y1))
  else
    bif s1.2.2.1 == 0 then
      (m139 s1.2.2.2.2.2 s1.1 s1.2.1).bind fun y2 =>
      some (LO.ret (s1.1, s1.2.1, s1.2.2.1, s1.2.2.2.1, s1.2.2.2.2.1, y2))
    else
      (
        bif !s1.2.2.2.1 then
          (m140 s1.2.2.2.2.2 s1.1 s1.2.1).bind fun y3 =>
          some (LO.norm (wi .i64 (s1.2.2.1 - 1), y3))
        else
          some (LO.norm (s1.2.2.1, s1.2.2.2.2.2))).bind (contO (fun s3 =>
        (m141 s3.2 s1.1 s1.2.1).bind fun y4 =>
        (
          bif y4.2 == 2 then
            (m142 s3.2 s1.1 s1.2.1).bind fun y5 =>
            some (LO.norm (wi .i64 ((wi .i64 (s1.2.1 - 1)) - (wi .i64 (y4.1 - s1.1))), 1, y5))
          else
            some (LO.norm (y4.1, y4.2, s3.2))).bind (contO (fun s5 =>
          (
            (
              bif s1.2.2.2.1 then
                bif s1.2.2.2.2.1 then
                  some (LO.norm (s5.2.1 == 1))
                else
                  some (LO.norm false)
              else
                some (LO.norm false)).bind (contO (fun s8 =>
              bif s8 then
                (m143 s5.2.2 s1.1 s1.2.1).bind fun y6 =>
                bif y6.1 then
                  some (LO.ret y6.2)
                else
                  some (LO.norm y6.2)
              else
                some (LO.norm s5.2.2)) (fun i3 s8 =>
              some (LO.exit i3 s5.2.2)) (fun s8 =>
              some (LO.ret s5.2.2)))).bind (contO (fun s9 =>
            (
              bif decide (s1.1 > 0) then
                (getI s9 (wi .i64 (s1.1 - 1))).bind fun x1 =>
                (getI s9 s5.1).bind fun x2 =>
                (m144 x1 x2).bind fun y7 =>
                bif !y7 then
                  (m145 s9 s1.1 s1.2.1 s5.1).bind fun y8 =>
                  some (LO.exit 1 (y8.1, y8.2))
                else
                  some (LO.norm (s1.1, s9))
              else
                some (LO.norm (s1.1, s9))).bind (contO (fun s11 =>
              (m146 s11.2 s11.1 s1.2.1 s5.1).bind fun y9 =>
              bif decide ((wi .i64 (y9.1 - s11.1)) < (wi .i64 (s1.2.1 - y9.1))) then
                (rec_ y9.2.2 s11.1 y9.1 s3.1).bind fun y10 =>
                some (LO.norm (wi .i64 (y9.1 + 1), s1.2.1, s3.1, decide ((wi .i64 (y9.1 - s11.1)) ≥ (wi .i64 (Int.tdiv (wi .i64 (s1.2.1 - s1.1)) 8))), y9.2.1, y10))
              else
                (rec_ y9.2.2 (wi .i64 (y9.1 + 1)) s1.2.1 s3.1).bind fun y11 =>
                some (LO.norm (s11.1, y9.1, s3.1, decide ((wi .i64 (s1.2.1 - y9.1)) ≥ (wi .i64 (Int.tdiv (wi .i64 (s1.2.1 - s1.1)) 8))), y9.2.1, y11))) (fun i5 s11 =>
              if i5 = 1 then
                some (LO.norm (s11.1, s1.2.1, s3.1, s1.2.2.2.1, s1.2.2.2.2.1, s11.2))
              else
                some (LO.exit i5 (s11.1, s1.2.1, s3.1, s1.2.2.2.1, s1.2.2.2.2.1, s11.2))) (fun s11 =>
              some (LO.ret (s11.1, s1.2.1, s3.1, s1.2.2.2.1, s1.2.2.2.2.1, s11.2))))) (fun i4 s9 =>
            if i4 = 1 then
              some (LO.norm (s1.1, s1.2.1, s3.1, s1.2.2.2.1, s1.2.2.2.2.1, s9))
            else
              some (LO.exit i4 (s1.1, s1.2.1, s3.1, s1.2.2.2.1, s1.2.2.2.2.1, s9))) (fun s9 =>
            some (LO.ret (s1.1, s1.2.1, s3.1, s1.2.2.2.1, s1.2.2.2.2.1, s9))))) (fun i2 s5 =>
          if i2 = 1 then
            some (LO.norm (s1.1, s1.2.1, s3.1, s1.2.2.2.1, s1.2.2.2.2.1, s5.2.2))
          else
            some (LO.exit i2 (s1.1, s1.2.1, s3.1, s1.2.2.2.1, s1.2.2.2.2.1, s5.2.2))) (fun s5 =>
          some (LO.ret (s1.1, s1.2.1, s3.1, s1.2.2.2.1, s1.2.2.2.2.1, s5.2.2))))) (fun i1 s3 =>
        if i1 = 1 then
          some (LO.norm (s1.1, s1.2.1, s3.1, s1.2.2.2.1, s1.2.2.2.2.1, s3.2))
        else
          some (LO.exit i1 (s1.1, s1.2.1, s3.1, s1.2.2.2.1, s1.2.2.2.2.1, s3.2))) (fun s3 =>
        some (LO.ret (s1.1, s1.2.1, s3.1, s1.2.2.2.1, s1.2.2.2.2.1, s3.2))))
noncomputable def m129F (rec_ : (List Int) → Int → Int → Int → Option ((List Int))) (a0 : List Int) (a1 : Int) (a2 : Int) (a3 : Int) : Option ((List Int)) :=
  (loopO (ms129_0 rec_) NN (a1, a2, a3, true, true, a0)).bind (contO (fun _ => none) (fun i6 s12 =>
    if i6 = 0 then
      some s12.2.2.2.2.2
    else
      none) (fun s12 =>
    some s12.2.2.2.2.2))
noncomputable def m129 (n : Nat) : (List Int) → Int → Int → Int → Option ((List Int)) := Nat.rec (fun _ _ _ _ => none) (fun _ ih => m129F ih) n
theorem w129 : ∀ (n d : Nat) (hd : n + 71 ≤ d) (L0 : List En) (v0_ : AV) (a0 : List Int) (a1 : Int) (a2 : Int) (a3 : Int), Okh (sl false v0_ (a0 : List Int) :: L0) (fun S => R NN d 129 [v0_, .int .i64 a1, .int .i64 a2, .int .i64 a3] S) (m129 n a0 a1 a2 a3) (P2 (fun (t : (List Int)) => und) (fun (t : (List Int)) => sl false v0_ t :: L0))
  | 0, _, _, L0, v0_, a0, a1, a2, a3 => okh_none
  | n + 1, d, hd, L0, v0_, a0, a1, a2, a3 => by
    have ih := w129 n
    obtain ⟨d, rfl, g⟩ := up (n := n + 71) (d := d) (by omega)
    rw [show (fun S => R NN (d + 1) 129 [v0_, .int .i64 a1, .int .i64 a2, .int .i64 a3] S) = fun S => b129 (cfg NN) (R NN d) (v0_) (.int .i64 a1) (.int .i64 a2) (.int .i64 a3) S from funext fun S => t129 NN d v0_ (.int .i64 a1) (.int .i64 a2) (.int .i64 a3) S]
    rw [show m129 (n + 1) = m129F (m129 n) from rfl]
    unfold b129 m129F
    refine okh_loop (I := (fun (s : Int × Int × Int × Bool × Bool × (List Int)) l L => l = [.int .i64 s.1, .int .i64 s.2.1, .int .i64 s.2.2.1, .bool s.2.2.2.1, .bool s.2.2.2.2.1] ∧ L = sl false v0_ (s.2.2.2.2.2 : List Int) :: L0)) 0 ⟨rfl, rfl⟩ ?_ ?_ ?_
    · rintro s1 _ _ ⟨rfl, rfl⟩
      unfold s129_0 ms129_0
      refine okh_p (fun _ => rfl) ?_
      refine okh_p (fun _ => rfl) ?_
      refine okh_if (fun h11 => ?_) (fun h11 => ?_)
      · refine okh_s (mg := m138 s1.2.2.2.2.2 s1.1 s1.2.1) (w138 (by omega) _ _ s1.2.2.2.2.2 s1.1 s1.2.1) fun y1 hy1 => ?_
        exact okh_lret 0 ⟨rfl, rfl⟩
      · refine okh_p (fun _ => rfl) ?_
        refine okh_if (fun h10 => ?_) (fun h10 => ?_)
        · refine okh_s (mg := m139 s1.2.2.2.2.2 s1.1 s1.2.1) (w139 (by omega) _ _ s1.2.2.2.2.2 s1.1 s1.2.1) fun y2 hy2 => ?_
          exact okh_lret 0 ⟨rfl, rfl⟩
        · refine okh_cut (I := (fun (s : Int × (List Int)) l L => l = [.int .i64 s.1] ∧ L = sl false v0_ (s.2 : List Int) :: L0)) ?_ ?_ ?_ ?_
          · refine okh_p (fun _ => rfl) ?_
            refine okh_if (fun h1 => ?_) (fun h1 => ?_)
            · refine okh_s (mg := m140 s1.2.2.2.2.2 s1.1 s1.2.1) (w140 (by omega) _ _ s1.2.2.2.2.2 s1.1 s1.2.1) fun y3 hy3 => ?_
              refine okh_p (fun _ => rfl) ?_
              exact okh_norm 0 ⟨rfl, rfl⟩
            · exact okh_norm 0 ⟨rfl, rfl⟩
          · rintro s3 _ _ ⟨rfl, rfl⟩
            refine okh_c0 (mg := m141 s3.2 s1.1 s1.2.1) (E := (fun (t : Int × Int) => AV.tup [.int .i64 t.1, .int .i64 t.2])) (fun S hS => args3 (M := fun a => Fit (R NN d 141 a []) _ _) (cv_o 0 rfl) (cv_p rfl) (cv_p rfl) hS fun l0_ l1_ l2_ => w141 (by omega) l0_ s3.2 s1.1 s1.2.1) fun y4 hy4 => ?_
            refine okh_q (fun _ => rfl) ?_
            refine okh_q (fun _ => rfl) ?_
            refine okh_cut (I := (fun (s : Int × Int × (List Int)) l L => l = [.int .i64 s.1, .int .i64 s.2.1] ∧ L = sl false v0_ (s.2.2 : List Int) :: L0)) ?_ ?_ ?_ ?_
            · refine okh_p (fun _ => rfl) ?_
              refine okh_if (fun h2 => ?_) (fun h2 => ?_)
              · refine okh_s (mg := m142 s3.2 s1.1 s1.2.1) (w142 (by omega) _ _ s3.2 s1.1 s1.2.1) fun y5 hy5 => ?_
                refine okh_p (fun _ => rfl) ?_
                refine okh_p (fun _ => rfl) ?_
                refine okh_p (fun _ => rfl) ?_
                exact okh_norm 0 ⟨rfl, rfl⟩
              · exact okh_norm 0 ⟨rfl, rfl⟩
            · rintro s5 _ _ ⟨rfl, rfl⟩
              refine okh_cut (I := (fun (s : (List Int)) l L => l = [] ∧ L = sl false v0_ (s : List Int) :: L0)) ?_ ?_ ?_ ?_
              · refine okh_cut (I := (fun (s : Bool) l L => l = [.bool s] ∧ L = sl false v0_ (s5.2.2 : List Int) :: L0)) ?_ ?_ ?_ ?_
                · refine okh_gT (fun h4 => ?_) (fun h4 => ?_)
                  · refine okh_gT (fun h3 => ?_) (fun h3 => ?_)
                    · refine okh_p (fun _ => rfl) ?_
                      exact okh_norm 0 ⟨rfl, rfl⟩
                    · exact okh_norm 0 ⟨rfl, rfl⟩
                  · exact okh_norm 0 ⟨rfl, rfl⟩
                · rintro s8 _ _ ⟨rfl, rfl⟩
                  refine okh_if (fun h6 => ?_) (fun h6 => ?_)
                  · refine okh_s (mg := m143 s5.2.2 s1.1 s1.2.1) (w143 (by omega) _ _ s5.2.2 s1.1 s1.2.1) fun y6 hy6 => ?_
                    refine okh_if (fun h5 => ?_) (fun h5 => ?_)
                    · exact okh_lret 0 ⟨rfl, rfl⟩
                    · exact okh_norm 0 ⟨rfl, rfl⟩
                  · exact okh_norm 0 ⟨rfl, rfl⟩
                · rintro i3 s8 _ _ ⟨rfl, rfl⟩
                  exact okh_exit 0 ⟨rfl, rfl⟩
                · rintro s8 _ _ ⟨rfl, rfl⟩
                  exact okh_lret 0 ⟨rfl, rfl⟩
              · rintro s9 _ _ ⟨rfl, rfl⟩
                refine okh_cut (I := (fun (s : Int × (List Int)) l L => l = [.int .i64 s.1] ∧ L = sl false v0_ (s.2 : List Int) :: L0)) ?_ ?_ ?_ ?_
                · refine okh_p (fun _ => rfl) ?_
                  refine okh_gT (fun h8 => ?_) (fun h8 => ?_)
                  · refine okh_p (fun _ => rfl) ?_
                    refine okh_ixo 0 rfl rfl fun x1 hx1 => ?_
                    refine okh_ldo 0 rfl hx1 rfl ?_
                    refine okh_ixo 0 rfl rfl fun x2 hx2 => ?_
                    refine okh_ldo 0 rfl hx2 rfl ?_
                    refine okh_c0 (mg := m144 x1 x2) (E := (fun (t : Bool) => AV.bool t)) (fun S hS => args2 (M := fun a => Fit (R NN d 144 a []) _ _) (cv_p rfl) (cv_p rfl) hS fun l0_ l1_ => w144 (by omega) x1 x2) fun y7 hy7 => ?_
                    refine okh_p (fun _ => rfl) ?_
                    refine okh_if (fun h7 => ?_) (fun h7 => ?_)
                    · refine okh_s (mg := m145 s9 s1.1 s1.2.1 s5.1) (w145 (by omega) _ _ s9 s1.1 s1.2.1 s5.1) fun y8 hy8 => ?_
                      exact okh_exit 0 ⟨rfl, rfl⟩
                    · exact okh_norm 0 ⟨rfl, rfl⟩
                  · exact okh_norm 0 ⟨rfl, rfl⟩
                · rintro s11 _ _ ⟨rfl, rfl⟩
                  refine okh_s (mg := m146 s11.2 s11.1 s1.2.1 s5.1) (w146 (by omega) _ _ s11.2 s11.1 s1.2.1 s5.1) fun y9 hy9 => ?_
                  refine okh_q (fun _ => rfl) ?_
                  refine okh_q (fun _ => rfl) ?_
                  refine okh_p (fun _ => rfl) ?_
                  refine okh_p (fun _ => rfl) ?_
                  refine okh_p (fun _ => rfl) ?_
                  refine okh_p (fun _ => rfl) ?_
                  refine okh_if (fun h9 => ?_) (fun h9 => ?_)
                  · refine okh_p (fun _ => rfl) ?_
                    refine okh_s (mg := (m129 n) y9.2.2 s11.1 y9.1 s3.1) (ih d (by omega) _ _ y9.2.2 s11.1 y9.1 s3.1) fun y10 hy10 => ?_
                    refine okh_p (fun _ => rfl) ?_
                    exact okh_norm 0 ⟨rfl, rfl⟩
                  · refine okh_p (fun _ => rfl) ?_
                    refine okh_p (fun _ => rfl) ?_
                    refine okh_s (mg := (m129 n) y9.2.2 (wi .i64 (y9.1 + 1)) s1.2.1 s3.1) (ih d (by omega) _ _ y9.2.2 (wi .i64 (y9.1 + 1)) s1.2.1 s3.1) fun y11 hy11 => ?_
                    exact okh_norm 0 ⟨rfl, rfl⟩
                · rintro i5 s11 _ _ ⟨rfl, rfl⟩
                  refine okh_ite (fun _ => ?_) (fun _ => ?_)
                  · exact okh_norm 0 ⟨rfl, rfl⟩
                  · exact okh_exit 0 ⟨rfl, rfl⟩
                · rintro s11 _ _ ⟨rfl, rfl⟩
                  exact okh_lret 0 ⟨rfl, rfl⟩
              · rintro i4 s9 _ _ ⟨rfl, rfl⟩
                refine okh_ite (fun _ => ?_) (fun _ => ?_)
                · exact okh_norm 0 ⟨rfl, rfl⟩
                · exact okh_exit 0 ⟨rfl, rfl⟩
              · rintro s9 _ _ ⟨rfl, rfl⟩
                exact okh_lret 0 ⟨rfl, rfl⟩
            · rintro i2 s5 _ _ ⟨rfl, rfl⟩
              refine okh_ite (fun _ => ?_) (fun _ => ?_)
              · exact okh_norm 0 ⟨rfl, rfl⟩
              · exact okh_exit 0 ⟨rfl, rfl⟩
            · rintro s5 _ _ ⟨rfl, rfl⟩
              exact okh_lret 0 ⟨rfl, rfl⟩
          · rintro i1 s3 _ _ ⟨rfl, rfl⟩
            refine okh_ite (fun _ => ?_) (fun _ => ?_)
            · exact okh_norm 0 ⟨rfl, rfl⟩
            · exact okh_exit 0 ⟨rfl, rfl⟩
          · rintro s3 _ _ ⟨rfl, rfl⟩
            exact okh_lret 0 ⟨rfl, rfl⟩
    · rintro i6 s12 _ _ ⟨rfl, rfl⟩
      refine okh_ite (fun _ => ?_) (fun _ => ?_)
      · exact okh_ret2 0 rfl rfl
      · exact okh_none
    · rintro s12 _ _ ⟨rfl, rfl⟩
      exact okh_ret2 0 rfl rfl
/- slices.Sort[[]int64,int64] -/
noncomputable def m110 (a0 : List Int) : Option ((List Int)) :=
  (m130 (wi .u64 (a0.length : Int))).bind fun y1 =>
  (m129 64 a0 0 (a0.length : Int) y1).bind fun y2 =>
  some y2
theorem w110 {d : Nat} (hd : 136 ≤ d) (L0 : List En) (v0_ : AV) (a0 : List Int) : Okh (sl false v0_ (a0 : List Int) :: L0) (fun S => R NN d 110 [v0_] S) (m110 a0) (P2 (fun (t : (List Int)) => und) (fun (t : (List Int)) => sl false v0_ t :: L0)) := by
  obtain ⟨d, rfl, g⟩ := up hd
  rw [show (fun S => R NN (d + 1) 110 [v0_] S) = fun S => b110 (cfg NN) (R NN d) (v0_) S from funext fun S => t110 NN d v0_ S]
  unfold b110 m110
  refine okh_leno 0 rfl ?_
  refine okh_p (fun _ => cvt3_152 _ _) ?_
  refine okh_c0 (mg := m130 (wi .u64 (a0.length : Int))) (E := (fun (t : Int) => AV.int .i64 t)) (fun S hS => args1 (M := fun a => Fit (R NN d 130 a []) _ _) (cv_p rfl) hS fun l0_ => w130 (by omega) (wi .u64 (a0.length : Int))) fun y1 hy1 => ?_
  refine okh_s (mg := m129 64 a0 0 (a0.length : Int) y1) (w129 64 _ (by omega) _ _ a0 0 (a0.length : Int) y1) fun y2 hy2 => ?_
  exact okh_ret2 0 rfl rfl
/- slices.Compact[[]int64,int64] -/
noncomputable def ms111_0 (lo n : Int) (s : Int × Int × List Int) : Option (LO (Int × Int × List Int)) :=
  bif decide (s.2.1 < n - lo) then
    ((getV s.2.2 lo n s.2.1).bind fun x1 => (getV s.2.2 lo n (wi .i64 (s.2.1 - 1))).bind fun x2 =>
      bif x1 != x2 then (getV s.2.2 lo n s.2.1).bind fun x3 => (getI s.2.2 s.1).bind fun _ => some (LO.norm (wi .i64 (s.1 + 1), s.2.2.set s.1.toNat x3))
      else some (LO.norm (s.1, s.2.2))).bind (contO (fun s' => some (LO.norm (s'.1, wi .i64 (s.2.1 + 1), s'.2))) (fun i s' => some (LO.exit i (s'.1, s.2.1, s'.2))) (fun s' => some (LO.ret (s'.1, s.2.1, s'.2))))
  else some (LO.exit 2 s)
noncomputable def ms111_1 (xs : List Int) (s : Option (List Int) × Int) : Option (LO (Option (List Int) × Int)) :=
  match s.1 with
  | some _ => none
  | none =>
    bif decide (s.2 < (xs.length : Int)) then
      (getI xs s.2).bind fun x1 => (getI xs (wi .i64 (s.2 - 1))).bind fun x2 =>
      bif x1 == x2 then
        (viO xs.length s.2 xs.length).bind fun _ => (loopO (ms111_0 s.2 xs.length) NN (s.2, 1, xs)).bind (contO (fun _ => none) (fun i t => if i = 2 then (viO t.2.2.length t.1 t.2.2.length).bind fun _ => (viO (clr t.2.2 t.1).length 0 t.1).bind fun _ => some (LO.ret (some ((clr t.2.2 t.1).take t.1.toNat), t.1)) else none) (fun _ => none))
      else some (LO.norm (none, wi .i64 (s.2 + 1)))
    else some (LO.exit 0 (none, s.2))
noncomputable def m111 (xs : List Int) : Option (List Int) :=
  bif decide ((xs.length : Int) < 2) then some xs
  else (loopO (ms111_1 xs) NN (none, 1)).bind (contO (fun _ => none) (fun i s => if i = 0 then (match s.1 with | none => some xs | some _ => none) else none) (fun s => s.1))
theorem und111 : Try.prog.underlying 31 = some (.slice 2) := by kernel_rfl
theorem zer111 : zeroA Try.prog 2 = some (Enc.cs false (0 : Int)) := by kernel_rfl
theorem w111 {d : Nat} (hd : 1 ≤ d) (L0 : List En) (v0_ : AV) (a0 : List Int) : Okh (sl false v0_ a0 :: L0) (fun S => R NN d 111 [v0_] S) (m111 a0) (P2 (fun (t : List Int) => cpv v0_ t.length) (fun (t : List Int) => cl v0_ t :: L0)) := by
  obtain ⟨d, rfl, g⟩ := up hd
  rw [show (fun S => R NN (d + 1) 111 [v0_] S) = fun S => b111 (cfg NN) (R NN d) (v0_) S from funext fun S => t111 NN d v0_ S]
  have hwhole : Okh (sl false v0_ a0 :: L0) (fun S => some (v0_, S)) (some a0) (P2 (fun (t : List Int) => cpv v0_ t.length) (fun (t : List Int) => cl v0_ t :: L0)) := fun S hS t ht => by
    injection ht with ht; subst ht
    refine ⟨_, rfl, ?_, ?_⟩
    · rcases hS.get (k := 0) rfl with ⟨rfl, rfl⟩ | ⟨b, fl, pl, rfl, _, _⟩
      · rfl
      · simp [cpv]
    · have h := okh_cl (L0 := L0) (v := v0_) (xs := a0) (k := fun S => some S) (m := some ()) (P := fun _ S' => HP S' (cl v0_ a0 :: L0)) (fun S hS t ht => ⟨S, rfl, hS⟩) S hS () rfl
      obtain ⟨S', h1, h2⟩ := h
      injection h1 with h1; subst h1; exact h2
  unfold b111 m111
  refine okh_leno 0 rfl ?_
  refine okh_p (fun _ => rfl) ?_
  refine okh_if (fun h1 => ?_) (fun h1 => ?_)
  · exact hwhole
  · refine okh_loop (I := (fun (s : Option (List Int) × Int) l L => match s.1 with | none => l = [.rsl false true [], .int .i64 s.2] ∧ L = sl false v0_ a0 :: L0 | some ys => l = [cpv v0_ ys.length, .int .i64 s.2] ∧ L = cl v0_ ys :: L0)) 0 ⟨rfl, rfl⟩ ?_ ?_ ?_
    · rintro ⟨s1, k⟩ l L' hI
      cases s1 with
      | some ys => exact okh_none
      | none =>
        obtain ⟨rfl, rfl⟩ := hI
        unfold s111_1 ms111_1
        refine okh_leno 0 rfl ?_
        refine okh_p (fun _ => rfl) ?_
        refine okh_if (fun h2 => ?_) (fun h2 => ?_)
        · refine okh_ixo 0 rfl rfl fun x1 hx1 => ?_
          refine okh_ldo 0 rfl hx1 rfl ?_
          refine okh_p (fun _ => rfl) ?_
          refine okh_ixo 0 rfl rfl fun x2 hx2 => ?_
          refine okh_ldo 0 rfl hx2 rfl ?_
          refine okh_p (fun _ => rfl) ?_
          refine okh_if (fun h3 => ?_) (fun h3 => ?_)
          · refine okh_vi 0 rfl rfl (.inl rfl) (.inr ⟨rfl, rfl⟩) fun g1 g2 g3 => ?_
            refine okh_loop (I := (fun (s : Int × Int × List Int) l L => l = [.int .i64 s.1, .int .i64 s.2.1] ∧ L = sl false v0_ s.2.2 :: L0 ∧ s.2.2.length = a0.length)) 0 ⟨rfl, rfl, rfl⟩ ?_ ?_ ?_
            · rintro ⟨i, k2, ys⟩ _ _ ⟨rfl, rfl, hl⟩
              unfold s111_0 ms111_0
              refine okh_vlen 0 rfl g1 g2 (by dsimp only at hl ⊢; omega) ?_
              refine okh_p (fun _ => rfl) ?_
              refine okh_if (fun h4 => ?_) (fun h4 => ?_)
              · refine okh_cut (I := (fun (s : Int × List Int) l L => l = [.int .i64 s.1] ∧ L = sl false v0_ s.2 :: L0 ∧ s.2.length = a0.length)) ?_ ?_ ?_ ?_
                · refine okh_vix 0 rfl rfl g1 g2 (by dsimp only at hl ⊢; omega) fun x3 hx3 => ?_
                  refine okh_ldo 0 rfl hx3 rfl ?_
                  refine okh_p (fun _ => rfl) ?_
                  refine okh_vix 0 rfl rfl g1 g2 (by dsimp only at hl ⊢; omega) fun x4 hx4 => ?_
                  refine okh_ldo 0 rfl hx4 rfl ?_
                  refine okh_p (fun _ => rfl) ?_
                  refine okh_if (fun h5 => ?_) (fun h5 => ?_)
                  · refine okh_vix 0 rfl rfl g1 g2 (by dsimp only at hl ⊢; omega) fun x5 hx5 => ?_
                    refine okh_ldo 0 rfl hx5 rfl ?_
                    refine okh_ixo 0 rfl rfl fun x6 hx6 => ?_
                    refine okh_stoe 0 rfl rfl hx6 rfl (by decide) ?_
                    refine okh_p (fun _ => rfl) ?_
                    exact okh_norm 0 ⟨rfl, rfl, by simpa using hl⟩
                  · exact okh_norm 0 ⟨rfl, rfl, hl⟩
                · rintro ⟨i', ys'⟩ _ _ ⟨rfl, rfl, hl'⟩
                  refine okh_p (fun _ => rfl) ?_
                  exact okh_norm 0 ⟨rfl, rfl, hl'⟩
                · rintro j ⟨i', ys'⟩ _ _ ⟨rfl, rfl, hl'⟩
                  exact okh_exit 0 ⟨rfl, rfl, hl'⟩
                · rintro ⟨i', ys'⟩ _ _ ⟨rfl, rfl, hl'⟩
                  exact okh_lret 0 ⟨rfl, rfl, hl'⟩
              · exact okh_exit 0 ⟨rfl, rfl, hl⟩
            · rintro j ⟨i, k2, ys⟩ _ _ ⟨rfl, rfl, hl⟩
              refine okh_ite (fun _ => ?_) (fun hj => ?_)
              · refine okh_vi 0 rfl rfl (.inl rfl) (.inr ⟨rfl, rfl⟩) fun g4 g5 g6 => ?_
                refine okh_vclr (te := 2) (z := (0 : Int)) 0 rfl und111 zer111 g4 g5 g6 ?_
                refine okh_vi (xs := clr ys i) (i := 0) 0 rfl rfl (.inr ⟨rfl, rfl⟩) (.inl rfl) fun g7 g8 g9 => ?_
                have e1 : ((clr ys i).take i.toNat).length = i.toNat := by rw [List.length_take]; omega
                refine okh_cut0 (ys := (clr ys i).take i.toNat) (by rw [e1]; rfl) ?_
                refine okh_lret 0 ⟨?_, rfl⟩
                rw [e1]
                show [viA v0_ 0 i.toNat, _] = _
                rw [viA0]; rfl
              · exact okh_none
            · rintro ⟨i, k2, ys⟩ _ _ ⟨rfl, rfl, hl⟩
              exact okh_none
          · refine okh_p (fun _ => rfl) ?_
            exact okh_norm 0 ⟨rfl, rfl⟩
        · exact okh_exit 0 ⟨rfl, rfl⟩
    · rintro i ⟨s1, k⟩ l L' hI
      refine okh_ite (fun _ => ?_) (fun _ => ?_)
      · cases s1 with
        | some ys => exact okh_none
        | none => obtain ⟨rfl, rfl⟩ := hI; exact hwhole
      · exact okh_none
    · rintro ⟨s1, k⟩ l L' hI
      cases s1 with
      | none => exact okh_none
      | some ys =>
        obtain ⟨rfl, rfl⟩ := hI
        exact okh_ret2 0 rfl rfl

/- impl.votersFor -/
noncomputable def ms69_0 (a0 : List TVote) (a1 : TReply) (s1 : Int × (List Int)) : Option (LO (Int × (List Int))) :=
  bif decide (s1.1 < (a0.length : Int)) then
    (
      (getI a0 s1.1).bind fun x1 =>
      bif ((x1.Reply.Code == a1.Code) && ((x1.Reply.Value == a1.Value) && ((x1.Reply.Path == a1.Path) && true))) then
        (appO 8 s1.2 [x1.From]).bind fun z1 =>
        some (LO.norm z1)
      else
        some (LO.norm s1.2)).bind (contO (fun s3 =>
      some (LO.norm (wi .i64 (s1.1 + 1), s3))) (fun i1 s3 =>
      some (LO.exit i1 (s1.1, s3))) (fun s3 =>
      some (LO.ret (s1.1, s3))))
  else
    some (LO.exit 0 (s1.1, s1.2))
noncomputable def m69 (a0 : List TVote) (a1 : TReply) : Option ((List Int)) :=
  (loopO (ms69_0 a0 a1) NN (0, [])).bind (contO (fun _ => none) (fun i2 s4 =>
    if i2 = 0 then
      (m110 s4.2).bind fun y1 =>
      (m111 y1).bind fun y2 =>
      some y2
    else
      none) (fun s4 =>
    some []))
theorem w69 {d : Nat} (hd : 137 ≤ d) (k0 : Bool) (a0 : List TVote) (k1 : Bool) (a1 : TReply) : Fit (R NN d 69 [.rsl k0 false (a0.map (Enc.cs k0)), .agg (Enc.cs k1 a1)] []) (m69 a0 a1) (P0 (fun (t : List Int) => AV.rsl false false (t.map (Enc.cs false)))) := by
  obtain ⟨d, rfl, g⟩ := up hd
  rw [t69]
  refine (?_ : Okh [] (fun S => b69 (cfg NN) (R NN d) (.rsl k0 false (a0.map (Enc.cs k0))) (.agg (Enc.cs k1 a1)) S) _ _) [] HP.nil
  unfold b69 m69
  refine okh_box (n := 3) rfl rfl (by decide) fun b1 => ?_
  refine okh_e (fun _ => bs31_0 _) ?_
  refine okh_len ?_
  refine okh_nil (α := Int) false ?_
  refine okh_loop (I := (fun (s : Int × (List Int)) l L => ∃ (v1 : AV), l = [v1, .int .i64 s.1] ∧ L = [sl false v1 (s.2 : List Int), bx b1 [.int .i64 a1.Code, .int .i64 a1.Value, encS a1.Path]])) 0 ⟨(.rsl false true []), rfl, rfl⟩ ?_ ?_ ?_
  · rintro s1 _ _ ⟨v1, rfl, rfl⟩
    unfold s69_0 ms69_0
    refine okh_p (fun _ => rfl) ?_
    refine okh_if (fun h2 => ?_) (fun h2 => ?_)
    · refine okh_cut (I := (fun (s : (List Int)) l L => ∃ (v2 : AV), l = [v2] ∧ L = [sl false v2 (s : List Int), bx b1 [.int .i64 a1.Code, .int .i64 a1.Value, encS a1.Path]])) ?_ ?_ ?_ ?_
      · refine okh_ix rfl fun x1 hx1 => ?_
        refine okh_p (fun _ => rfl) ?_
        refine okh_new rfl fun b2 => ?_
        refine okh_st 0 rfl rfl rfl (by decide) rfl ?_
        refine okh_p (fun _ => rfl) ?_
        refine okh_lda 0 rfl rfl rfl ?_
        refine okh_lda 2 rfl rfl rfl ?_
        refine okh_p (fun _ => seql532 _ _ _ _ _ _) ?_
        refine okh_if (fun h1 => ?_) (fun h1 => ?_)
        · refine okh_p (fun _ => rfl) ?_
          refine okh_ld 0 rfl rfl ?_
          refine okh_e (fun _ => bs31_1 rfl) ?_
          refine okh_app (ys := [x1.From]) 1 rfl rfl (fun _ _ => rfl) fun v2 z1 hz1 => ?_
          exact okh_norm 1 ⟨v2, rfl, rfl⟩
        · exact okh_norm 1 ⟨v1, rfl, rfl⟩
      · rintro s3 _ _ ⟨v3, rfl, rfl⟩
        refine okh_p (fun _ => rfl) ?_
        exact okh_norm 0 ⟨v3, rfl, rfl⟩
      · rintro i1 s3 _ _ ⟨v4, rfl, rfl⟩
        exact okh_exit 0 ⟨v4, rfl, rfl⟩
      · rintro s3 _ _ ⟨v5, rfl, rfl⟩
        exact okh_lret 0 ⟨v5, rfl, rfl⟩
    · exact okh_exit 0 ⟨v1, rfl, rfl⟩
  · rintro i2 s4 _ _ ⟨v6, rfl, rfl⟩
    refine okh_ite (fun _ => ?_) (fun _ => ?_)
    · refine okh_s (mg := m110 s4.2) (w110 (by omega) _ _ s4.2) fun y1 hy1 => ?_
      refine okh_s (mg := m111 y1) (w111 (by omega) _ _ y1) fun y2 hy2 => ?_
      exact okh_ret (cv_cl 0 rfl) rfl
    · exact okh_none
  · rintro s4 _ _ ⟨v7, rfl, rfl⟩
    exact okh_ret (cv_r (α := Int) (l0 := false) (fl := true) (xs := [])) rfl
/- impl.AcceptOf -/
noncomputable def ms27_0 (a0 : Int) (a1 : List TVote) (s1 : Int × Int × Int × Str) : Option (LO (Int × Int × Int × Str)) :=
  bif decide (s1.1 < (a1.length : Int)) then
    (getI a1 s1.1).bind fun x1 =>
    (m69 a1 x1.Reply).bind fun y2 =>
    bif decide ((y2.length : Int) > a0) then
      some (LO.ret (s1.1, x1.Reply.Code, x1.Reply.Value, x1.Reply.Path))
    else
      some (LO.norm (wi .i64 (s1.1 + 1), s1.2.1, s1.2.2.1, s1.2.2.2))
  else
    some (LO.exit 0 (s1.1, s1.2.1, s1.2.2.1, s1.2.2.2))
noncomputable def m27 (a0 : Int) (a1 : List TVote) : Option (TReplyResult) :=
  (m11 a0 a1).bind fun y1 =>
  bif y1 != 0 then
    some (⟨y1, (⟨0, 0, []⟩ : TReply)⟩ : TReplyResult)
  else
    (loopO (ms27_0 a0 a1) NN (0, 0, 0, [])).bind (contO (fun _ => none) (fun i1 s2 =>
      if i1 = 0 then
        some (⟨10, (⟨0, 0, []⟩ : TReply)⟩ : TReplyResult)
      else
        none) (fun s2 =>
      some (⟨0, (⟨s2.2.1, s2.2.2.1, s2.2.2.2⟩ : TReply)⟩ : TReplyResult)))
theorem w27 {d : Nat} (hd : 138 ≤ d) (a0 : Int) (k1 : Bool) (a1 : List TVote) : Fit (R NN d 27 [.int .i64 a0, .rsl k1 false (a1.map (Enc.cs k1))] []) (m27 a0 a1) (P0 (fun (t : TReplyResult) => AV.agg (Enc.cs false t))) := by
  obtain ⟨d, rfl, g⟩ := up hd
  rw [t27]
  refine (?_ : Okh [] (fun S => b27 (cfg NN) (R NN d) (.int .i64 a0) (.rsl k1 false (a1.map (Enc.cs k1))) S) _ _) [] HP.nil
  unfold b27 m27
  refine okh_new rfl fun b1 => ?_
  refine okh_c0 (mg := m11 a0 a1) (E := (fun (t : Int) => AV.int .i64 t)) (fun S hS => args2 (M := fun a => Fit (R NN d 11 a []) _ _) (cv_p rfl) cv_r hS fun l0_ l1_ => w11 (by omega) a0 l1_ a1) fun y1 hy1 => ?_
  refine okh_p (fun _ => rfl) ?_
  refine okh_if (fun h3 => ?_) (fun h3 => ?_)
  · refine okh_p (fun _ => bd55_0 rfl) ?_
    refine okh_st 0 rfl rfl rfl (by decide) rfl ?_
    exact okh_retm (fun S hS => hS.lda 0 rfl rfl) (cv_a (cvs_cons (cv_p rfl) (cvs_cons (cv_p rfl) (cvs_cons (cv_p rfl) (cvs_cons (cv_p rfl) cvs_nil))))) rfl
  · refine okh_len ?_
    refine okh_loop (I := (fun (s : Int × Int × Int × Str) l L => l = [.int .i64 s.1] ∧ L = [bx b1 [.int .i64 0, .int .i64 s.2.1, .int .i64 s.2.2.1, encS s.2.2.2]])) 0 ⟨rfl, rfl⟩ ?_ ?_ ?_
    · rintro s1 _ _ ⟨rfl, rfl⟩
      unfold s27_0 ms27_0
      refine okh_p (fun _ => rfl) ?_
      refine okh_if (fun h2 => ?_) (fun h2 => ?_)
      · refine okh_ix rfl fun x1 hx1 => ?_
        refine okh_p (fun _ => rfl) ?_
        refine okh_new rfl fun b2 => ?_
        refine okh_st 0 rfl rfl rfl (by decide) rfl ?_
        refine okh_p (fun _ => rfl) ?_
        refine okh_lda 0 rfl rfl rfl ?_
        refine okh_c0 (mg := m69 a1 x1.Reply) (E := (fun (t : List Int) => AV.rsl false false (t.map (Enc.cs false)))) (fun S hS => args2 (M := fun a => Fit (R NN d 69 a []) _ _) cv_r (cv_a (cvs_e (l0 := false) (x := x1.Reply))) hS fun l0_ l1_ => w69 (by omega) l0_ a1 l1_ x1.Reply) fun y2 hy2 => ?_
        refine okh_len ?_
        refine okh_p (fun _ => rfl) ?_
        refine okh_if (fun h1 => ?_) (fun h1 => ?_)
        · refine okh_p (fun _ => rfl) ?_
          refine okh_lda 0 rfl rfl rfl ?_
          refine okh_p (fun _ => bd55_1 rfl) ?_
          refine okh_st 1 rfl rfl rfl (by decide) rfl ?_
          exact okh_lret 1 ⟨rfl, rfl⟩
        · refine okh_p (fun _ => rfl) ?_
          exact okh_norm 1 ⟨rfl, rfl⟩
      · exact okh_exit 0 ⟨rfl, rfl⟩
    · rintro i1 s2 _ _ ⟨rfl, rfl⟩
      refine okh_ite (fun _ => ?_) (fun _ => ?_)
      · refine okh_p (fun _ => bd55_0 rfl) ?_
        refine okh_st 0 rfl rfl rfl (by decide) rfl ?_
        exact okh_retm (fun S hS => hS.lda 0 rfl rfl) (cv_a (cvs_cons (cv_p rfl) (cvs_cons (cv_p rfl) (cvs_cons (cv_p rfl) (cvs_cons (cv_p rfl) cvs_nil))))) rfl
      · exact okh_none
    · rintro s2 _ _ ⟨rfl, rfl⟩
      exact okh_retm (fun S hS => hS.lda 0 rfl rfl) (cv_a (cvs_cons (cv_p rfl) (cvs_cons (cv_p rfl) (cvs_cons (cv_p rfl) (cvs_cons (cv_p rfl) cvs_nil))))) rfl
/- laws.eqReplyResult -/
noncomputable def m28 (a0 : TReplyResult) (a1 : TReplyResult) : Bool :=
  bif a0.Code != a1.Code then
    false
  else
    bif !(m70 a0.Reply a1.Reply) then
      false
    else
      true
theorem w28 {d : Nat} (hd : 2 ≤ d) (k0 : Bool) (a0 : TReplyResult) (k1 : Bool) (a1 : TReplyResult) : Fit (R NN d 28 [.agg (Enc.cs k0 a0), .agg (Enc.cs k1 a1)] []) (some (m28 a0 a1)) (P0 (fun (t : Bool) => AV.bool t)) := by
  obtain ⟨d, rfl, g⟩ := up hd
  rw [t28]
  refine (?_ : Okh [] (fun S => b28 (cfg NN) (R NN d) (.agg (Enc.cs k0 a0)) (.agg (Enc.cs k1 a1)) S) _ _) [] HP.nil
  unfold b28 m28
  refine okh_box (n := 4) rfl rfl (by decide) fun b1 => ?_
  refine okh_box (n := 4) rfl rfl (by decide) fun b2 => ?_
  refine okh_p (fun _ => rfl) ?_
  refine okh_ld 1 rfl rfl ?_
  refine okh_p (fun _ => rfl) ?_
  refine okh_ld 0 rfl rfl ?_
  refine okh_p (fun _ => rfl) ?_
  refine okh_ift (fun h2 => ?_) (fun h2 => ?_)
  · exact okh_ret (cv_p rfl) rfl
  · refine okh_p (fun _ => rfl) ?_
    refine okh_lda 1 rfl rfl rfl ?_
    refine okh_p (fun _ => rfl) ?_
    refine okh_lda 0 rfl rfl rfl ?_
    refine okh_c0t (y := m70 a0.Reply a1.Reply) (E := (fun (t : Bool) => AV.bool t)) (fun S hS => args2 (M := fun a => Fit (R NN d 70 a []) _ _) (cv_a (cvs_e (l0 := false) (x := a0.Reply))) (cv_a (cvs_e (l0 := false) (x := a1.Reply))) hS fun l0_ l1_ => w70 (by omega) l0_ a0.Reply l1_ a1.Reply) ?_
    refine okh_p (fun _ => rfl) ?_
    refine okh_ift (fun h1 => ?_) (fun h1 => ?_)
    · exact okh_ret (cv_p rfl) rfl
    · exact okh_ret (cv_p rfl) rfl
/- laws.FnExactAcceptOf -/
noncomputable def m5 (a0 : Int) (a1 : List TVote) : Option (Bool) :=
  (m8 a1 1048576).bind fun y1 =>
  bif decide (y1 < 0) then
    some true
  else
    (m10 a1).bind fun y2 =>
    (m26 a0 y2).bind fun y3 =>
    (m10 a1).bind fun y4 =>
    (m27 a0 y4).bind fun y5 =>
    bif !(m28 y5 y3) then
      some false
    else
      (m10 a1).bind fun y6 =>
      (m12 y4 y6).bind fun y7 =>
      bif !y7 then
        some false
      else
        some true
theorem w5 {d : Nat} (hd : 139 ≤ d) (a0 : Int) (k1 : Bool) (a1 : List TVote) : Fit (R NN d 5 [.int .i64 a0, .rsl k1 false (a1.map (Enc.cs k1))] []) (m5 a0 a1) (P0 (fun (t : Bool) => AV.bool t)) := by
  obtain ⟨d, rfl, g⟩ := up hd
  rw [t5]
  refine (?_ : Okh [] (fun S => b5 (cfg NN) (R NN d) (.int .i64 a0) (.rsl k1 false (a1.map (Enc.cs k1))) S) _ _) [] HP.nil
  unfold b5 m5
  refine okh_c0 (mg := m8 a1 1048576) (E := (fun (t : Int) => AV.int .i64 t)) (fun S hS => args2 (M := fun a => Fit (R NN d 8 a []) _ _) cv_r (cv_p rfl) hS fun l0_ l1_ => w8 (by omega) l0_ a1 1048576) fun y1 hy1 => ?_
  refine okh_p (fun _ => rfl) ?_
  refine okh_if (fun h3 => ?_) (fun h3 => ?_)
  · exact okh_ret (cv_p rfl) rfl
  · refine okh_c0 (mg := m10 a1) (E := (fun (t : List TVote) => AV.rsl false false (t.map (Enc.cs false)))) (fun S hS => args1 (M := fun a => Fit (R NN d 10 a []) _ _) cv_r hS fun l0_ => w10 (by omega) l0_ a1) fun y2 hy2 => ?_
    refine okh_c0 (mg := m26 a0 y2) (E := (fun (t : TReplyResult) => AV.agg (Enc.cs false t))) (fun S hS => args2 (M := fun a => Fit (R NN d 26 a []) _ _) (cv_p rfl) cv_r hS fun l0_ l1_ => w26 (by omega) a0 l1_ y2) fun y3 hy3 => ?_
    refine okh_new rfl fun b1 => ?_
    refine okh_st 0 rfl rfl rfl (by decide) rfl ?_
    refine okh_c0 (mg := m10 a1) (E := (fun (t : List TVote) => AV.rsl false false (t.map (Enc.cs false)))) (fun S hS => args1 (M := fun a => Fit (R NN d 10 a []) _ _) cv_r hS fun l0_ => w10 (by omega) l0_ a1) fun y4 hy4 => ?_
    refine okh_c0 (mg := m27 a0 y4) (E := (fun (t : TReplyResult) => AV.agg (Enc.cs false t))) (fun S hS => args2 (M := fun a => Fit (R NN d 27 a []) _ _) (cv_p rfl) cv_r hS fun l0_ l1_ => w27 (by omega) a0 l1_ y4) fun y5 hy5 => ?_
    refine okh_new rfl fun b2 => ?_
    refine okh_st 0 rfl rfl rfl (by decide) rfl ?_
    refine okh_lda 0 rfl rfl rfl ?_
    refine okh_lda 1 rfl rfl rfl ?_
    refine okh_c0t (y := m28 y5 y3) (E := (fun (t : Bool) => AV.bool t)) (fun S hS => args2 (M := fun a => Fit (R NN d 28 a []) _ _) (cv_a (cvs_e (l0 := false) (x := y5))) (cv_a (cvs_e (l0 := false) (x := y3))) hS fun l0_ l1_ => w28 (by omega) l0_ y5 l1_ y3) ?_
    refine okh_p (fun _ => rfl) ?_
    refine okh_if (fun h2 => ?_) (fun h2 => ?_)
    · exact okh_ret (cv_p rfl) rfl
    · refine okh_c0 (mg := m10 a1) (E := (fun (t : List TVote) => AV.rsl false false (t.map (Enc.cs false)))) (fun S hS => args1 (M := fun a => Fit (R NN d 10 a []) _ _) cv_r hS fun l0_ => w10 (by omega) l0_ a1) fun y6 hy6 => ?_
      refine okh_c0 (mg := m12 y4 y6) (E := (fun (t : Bool) => AV.bool t)) (fun S hS => args2 (M := fun a => Fit (R NN d 12 a []) _ _) cv_r cv_r hS fun l0_ l1_ => w12 (by omega) l0_ y4 l1_ y6) fun y7 hy7 => ?_
      refine okh_p (fun _ => rfl) ?_
      refine okh_if (fun h1 => ?_) (fun h1 => ?_)
      · exact okh_ret (cv_p rfl) rfl
      · exact okh_ret (cv_p rfl) rfl
end Go.Proofs.Ytionojjamahhpaa
