/- The row of a law: true, and nothing has turned. -/
import Derived.Test.YthbiabieiopobaaGreatDoorRf19
set_option linter.unusedVariables false
set_option linter.unusedSimpArgs false
namespace Go.Rf
open Go Go.ChangeShapes Go.WideShapes Go.RowKit Go.Deep
theorem Lq {H:Type} {enc:TypeId×Value→H} {P:Program} {f:Func} {s:ChangeSpec} {apart fresh handsOn again:Bool} {W W':World} {args:Array Value} {v:Value} {ds gs:List (DataW H)} {before pa pv:List MemPlace}
  (hW:DataW.Whole enc P f.params.toList s.vars apart W args.toList ds gs before)
  (hres:∀ (b:Nat) (sp:Nat→Bool) (hd:Bool),DataW.TrodAll enc P W' b sp hd f.resultTypes.toList (v.resultList f.resultTypes.size) (s.fn H (ds++gs)).results [])
  (hargs:∀ sp:Nat→Bool,(∀ p∈before,sp p.block = true)→DataW.TrodAll enc P W' 0 sp true f.params.toList args.toList (s.fn H (ds++gs)).args pa)
  (hvars:∀ sp:Nat→Bool,(∀ p∈before,sp p.block = true)→DataW.TrodVars enc P W' sp s.vars (s.fn H (ds++gs)).vars pv)
  (hps:before = pa++pv) (hb:Below W.heap.size W W')
  (hok:∀ (j:Nat) (t:TypeId) (r:Value),f.resultTypes[j]? = some t→(v.resultList f.resultTypes.size)[j]? = some r→Value.okWide P W' .any 0 t r) :
  s.post enc P f apart fresh handsOn again W args v W':=by
 have hlt:∀ p∈before,p.block < W.heap.size:=fun p hp=>hW.lt p hp
 have hold:∀ p∈before,(fun b=>decide (b < W.heap.size)) p.block = true:=fun p hp=>by simpa using hlt p hp
 refine ⟨ds,gs,before,[],pa,pv,hW,hres _ _ _,hargs _ hold,hvars _ hold,World.keptBut_mono (fun p hp=>⟨hp,?_⟩) (hb.frame (·∈before)),fun _=>?_⟩
 ·rw [hps,List.mem_append] at hp
  exact Or.inr hp
 ·obtain ⟨_,_,_,_,_,hz,hn⟩:=hW
  refine ⟨hok,_,_,([]++pa)++pv,⟨[]++pa,pv,trodAll_append (hargs _ (fun _ _=>rfl)) (hres _ _ _),hvars _ (fun _ _=>rfl),rfl,?_,?_⟩,?_⟩
  ·intro b off hp
   have hin:MemPlace.cell b off∈before:=by rw [hps]; simpa using hp
   rw [hb.frozen (hlt _ hin)]
   exact hz b off hin
  ·intro ha
   have:=hn ha
   rw [hps] at this
   simpa using this
  ·intro p hp _
   rw [hps]
   simpa using hp
theorem Nu {C:Cfg} (hm:C.P.follows .mixedOrders = true) (hN:Di C.P) (hlaid:laidOutB C.P = true) {H:Type} {enc:TypeId×Value→H} {f:FuncId} {fn:Func} {s:ChangeSpec} {n:Nat} {bt:TypeId}
  (hread:∀ t∈fn.params.toList,C.P.readableRec t = true∧t < C.P.types.size) (hokT:∀ t∈fn.params.toList,okT C.P n t = true) (hres:fn.resultTypes = #[bt]) (hbt:C.P.underlying bt = some .bool) (hvars:s.vars = [])
  {apart fresh handsOn again:Bool} {W:World} {base:Nat} {args:Array Value} {ds gs:List (DataW H)} {before:List MemPlace}
  (hspec:∀ gs',gs' = ([]:List (DataW H))→ds.length = fn.params.size→s.fn H (ds++gs') = { results:=[.lit (.bool true)],args:=ds })
  (hval:∀ (j:Nat) (t:TypeId) (v:Value),fn.params[j]? = some t→args[j]? = some v→Value.okWide C.P W .any base t v)
  (hW:DataW.Whole enc C.P fn.params.toList s.vars apart W args.toList ds gs before)
  (hE:Sv C W.heap.size (GW W))
  (hrun:∀ as_,WPs C.P n fn.params.toList as_→∃ d S1,Ug C d f as_ [] = some (.bool true,S1)) :
  Calls C.P f args W fun e W'=>∃ v,e = .returned v∧s.post enc C.P fn apart fresh handsOn again W args v W':=by
 have hW':=hW
 obtain ⟨p,q,hA,hV,rfl,hfz,hnd⟩:=hW
 rw [hvars] at hV
 obtain ⟨rfl,rfl⟩:=trodVars_none hV
 have hlt:∀ x∈p++[],x.block < W.heap.size:=fun x hx=>hW'.lt x hx
 obtain ⟨as_,ha1,ha2,ha3⟩:=LZ (n:=n) fn.params.toList args.toList ds p hokT (fun j t v hj hv=>hval j t v (by simpa using hj) (by simpa using hv)) hA
 obtain ⟨d,S1,hd⟩:=hrun as_ ha1
 have hdl:ds.length = fn.params.size:=by
  have:∀ (ts:List TypeId) (vs:List Value) (ds:List (DataW H)) (ps:List MemPlace),DataW.TrodAll enc C.P W 0 (fun _=>true) true ts vs ds ps→ds.length = ts.length:=by
   intro ts
   induction ts with
   | nil=>intro vs ds ps h; obtain ⟨_,rfl,_⟩:=trodAll_nil h; rfl
   | cons t ts ih=>
    intro vs ds ps h
    obtain ⟨_,_,_,_,_,_,_,rfl,_,_,h2⟩:=trodAll_cons h
    simp [ih _ _ _ h2]
  simpa using this _ _ _ _ hA
 have hs:=hspec [] rfl hdl
 refine (N8 hm hN hE ha2 ha3 hd).mono ?_
 rintro e W' ⟨cv,m,A,rfl,hb,_,hvr⟩
 cases hvr
 refine ⟨_,rfl,Lq (pa:=p) (pv:=[]) hW' (fun b sp hd=>?_) (fun sp hsp=>?_) (fun sp _=>?_) rfl hb ?_⟩
 ·rw [hs,hres]
  exact trodAll_mk1 ⟨1,by simp [DataW.trod,Value.cells,hbt]⟩
 ·rw [hs]
  exact Jd hlaid hb _ _ _ _ hread hA (fun x hx=>hlt x (by simp [hx])) (fun x hx=>hsp x (by simp [hx]))
 ·rw [hs,hvars]; rfl
 ·exact ok_one hres rfl (okWide_bool_mk hbt true)
end Go.Rf
