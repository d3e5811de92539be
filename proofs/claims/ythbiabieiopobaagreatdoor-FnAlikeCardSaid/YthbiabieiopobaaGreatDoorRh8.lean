/- Calls that give memory of their own; trees built, read and written. -/
import Derived.Test.YthbiabieiopobaaGreatDoorRh7
set_option linter.unusedVariables false
set_option linter.unusedSimpArgs false
namespace Go.Rf
open Go
def P1 {T:Type} [e:Enc T] [t:Tr T] (W:List AV→AV) (x:T) (r:AV×St):Prop:=∃ ids cs,r.1 = W cs∧t.ow r.2 ids cs x
def Sh (W:List AV→AV):Prop:=∀ (d:Nat) (cs:List AV),shv d (Bi (W cs)) = W (cs.map fun a=>shv d (Bi a))
theorem NR (d:Nat):∀ cs:List AV,shv.shL d (Bi.scrubL cs) = cs.map fun a=>shv d (Bi a)
 | []=>rfl
 | c::r=>by
  show shv d (Bi c)::shv.shL d (Bi.scrubL r) = _
  rw [NR d r]; rfl
theorem CY:Sh .agg:=fun d cs=>by
 show AV.agg (shv.shL d (Bi.scrubL cs)) = _
 rw [NR]
def Lr (cs:List AV):AV:=cs.headD (.int .i64 0)
theorem cE:Sh Lr:=fun d cs=>by
 cases cs <;> rfl
section
variable {ρ τ:Type} {L:List En} {m:Option τ} {P:τ→ρ→Prop}
theorem FU {T:Type} [e:Enc T] [t:Tr T] {run:CW} {g:FuncId} {args:List AV} {W:List AV→AV} {mg:Option T} {k:AV→St→Option ρ} {mk:T→Option τ} (hW:Sh W) (hf:∀ S,HP S L→Fit (run g (args.map (fz S)) []) mg (P1 W))
  (hk:∀ x,mg = some x→∀ ids cs,Okh (tr ids cs x::L) (k (W cs)) (mk x) P):Okh L (fun S=>pe (DF run g args S) k) (mg.bind mk) P:=fun S hS=>by
 intro y hy
 rw [Option.bind_eq_some_iff] at hy
 obtain ⟨x,hx,hm⟩:=hy
 obtain ⟨⟨v,S1⟩,h1,ids,cs,h2,h3⟩:=hf S hS x hx
 have h2:v = W cs:=h2
 have h3:t.ow S1 ids cs x:=h3
 subst h2
 show ∃ r,pe (DF run g args S) k = some r∧_
 unfold DF
 rw [h1]
 show ∃ r,k (shv S.length (Bi (W cs))) (S++S1.map (shB S.length)) = some r∧_
 rw [hW]
 exact hk x hx _ _ _ (hS.new (fun i hi=>List.getElem?_append_left hi) (fun i hi=>by
  obtain ⟨j,_,rfl⟩:=List.mem_map.1 (show i∈ids.map (· + S.length) from hi)
  omega) (t.sh h3 S)) y hm
theorem Ha {α:Type} [e:Enc α] [t:Tr α] {run:CW} {g:FuncId} {args:List AV} {mg:Option (List α)} {k:AV→St→Option ρ} {mk:List α→Option τ} (hf:∀ S,HP S L→Fit (run g (args.map (fz S)) []) mg (P1 Lr))
  (hk:∀ x,mg = some x→∀ ids v,Okh (tr ids [v] x::L) (k v) (mk x) P):Okh L (fun S=>pe (DF run g args S) k) (mg.bind mk) P:=
 FU cE hf fun x hx ids cs S hS=>by
  obtain ⟨v,rfl,_⟩:=show trList.ow S ids cs x from hS.get (k:=0) rfl
  exact hk x hx ids v S hS
theorem Ez {Q:Prop} {k:St→Option ρ} (hq:∀ S,HP S L→Q) (hk:Q→Okh L k m P):Okh L k m P:=fun S hS=>hk (hq S hS) S hS
end
def TB {α:Type} [e:Enc α] [t:Tr α] (L:List En) (us:List Nat) (cs:List AV) (x:α):Prop:=∀ S,HP S L→∃ ids,t.ow S ids cs x∧∀ i∈ids,∃ u∈us,∃ en,L[u]? = some en∧i∈en.ids
theorem AO {L:List En} {n:Int}:TB L [] [.int .i64 n] n:=fun S _=>⟨[],⟨rfl,rfl⟩,fun i hi=>by cases hi⟩
theorem AA {α:Type} [e:Enc α] [t:Tr α] {L:List En} {fl:Bool}:TB L [] [.rsl false fl []] ([]:List α):=fun S _=>⟨[],⟨_,rfl,.inl ⟨fl,rfl,rfl,rfl⟩⟩,fun i hi=>by cases hi⟩
theorem Dp {α:Type} [e:Enc α] [t:Tr α] {L:List En} {ids:List Nat} {cs:List AV} {x:α} (u:Nat) (hL:L[u]? = some (tr ids cs x)):TB L [u] cs x:=fun S hS=>⟨ids,hS.get hL,fun i hi=>⟨u,by simp,_,hL,hi⟩⟩
theorem LL {α:Type} [e:Enc α] [t:Tr α] {S:St} {l:Bool} (hp:∀ x:α,t.ow S [] (e.cs l x) x):∀ xs:List α,B0 (t.ow S) (xs.map (e.cs l)) xs (xs.map fun _=>[])
 | []=>trivial
 | x::xs=>⟨hp x,LL hp xs⟩
theorem JA {α:Type} [e:Enc α] [t:Tr α] {L:List En} {l:Bool} {v:AV} {xs:List α} (u:Nat) (hL:L[u]? = some (sl l v xs)) (hp:∀ (S:St) (x:α),t.ow S [] (e.cs l x) x):TB L [u] [v] xs:=fun S hS=>by
 rcases hS.get hL with ⟨rfl,rfl⟩ | ⟨b,fl,pl,rfl,h2,h3⟩
 ·exact ⟨[],⟨_,rfl,.inl ⟨true,rfl,rfl,rfl⟩⟩,fun i hi=>by cases hi⟩
 ·have hf:(xs.map fun _=>([]:List Nat)).flatten = []:=by
   rw [List.flatten_eq_nil_iff]
   intro a ha
   obtain ⟨_,_,rfl⟩:=List.mem_map.1 ha
   rfl
  refine ⟨[b],⟨_,rfl,.inr ⟨b,fl,pl,_,_,[],rfl,by rw [List.append_nil]; exact h2,by rw [List.append_nil]; exact h3,LL (hp S) xs,by rw [hf],by simp⟩⟩,fun i hi=>⟨u,by simp,_,hL,hi⟩⟩
theorem Ap {α β:Type} [ea:Enc α] [eb:Enc β] [a:Tr α] [b:Tr β] {L:List En} {u1 u2:List Nat} {c1 c2:List AV} {x:α} {y:β} (h1:TB L u1 c1 x) (h2:TB L u2 c2 y) (hd:∀ u∈u1,u ∉ u2:=by decide):TB L (u1++u2) (c1++c2) (x,y):=fun S hS=>by
 obtain ⟨i1,k1,k2⟩:=h1 S hS
 obtain ⟨i2,q1,q2⟩:=h2 S hS
 refine ⟨i1++i2,⟨i1,i2,c1,c2,rfl,?_,rfl,k1,q1⟩,fun i hi=>?_⟩
 ·rw [List.nodup_append]
  refine ⟨a.nd k1,b.nd q1,fun i hi j hj e=>?_⟩
  subst e
  obtain ⟨u,hu,en,hl,hin⟩:=k2 i hi
  obtain ⟨w,hw,en',hl',hin'⟩:=q2 i hj
  have hne:u≠w:=fun e=>hd u hu (e ▸ hw)
  have hp:=List.pairwise_iff_getElem.1 hS.2
  obtain ⟨hul,rfl⟩:=List.getElem?_eq_some_iff.1 hl
  obtain ⟨hwl,rfl⟩:=List.getElem?_eq_some_iff.1 hl'
  rcases Nat.lt_or_gt_of_ne hne with q | q
  ·exact hp u w hul hwl q i hin hin'
  ·exact hp w u hwl hul q i hin' hin
 ·rcases List.mem_append.1 hi with hi | hi
  ·obtain ⟨u,hu,r⟩:=k2 i hi
   exact ⟨u,List.mem_append_left _ hu,r⟩
  ·obtain ⟨u,hu,r⟩:=q2 i hi
   exact ⟨u,List.mem_append_right _ hu,r⟩
theorem Bh {α β:Type} [ea:Enc α] [eb:Enc β] [a:Tr α] [b:Tr β] {L:List En} {us:List Nat} {cs:List AV} {f:α→β} {x:α} (h:(fun S ids cs=>a.ow S ids cs x) = fun S ids cs=>b.ow S ids cs (f x)) (hb:TB L us cs (f x)):TB L us cs x:=fun S hS=>by
 obtain ⟨ids,h1,h2⟩:=hb S hS
 refine ⟨ids,?_,h2⟩
 have:=congrFun (congrFun (congrFun h S) ids) cs
 exact this.symm ▸ h1
def Up {α:Type} [e:Enc α] [t:Tr α] (o:Nat) (c:AV) (f:α→α):Prop:=∀ (S:St) (ids:List Nat) (cs:List AV) (x:α),t.ow S ids cs x→o < cs.length∧t.ow S ids (cs.set o c) (f x)
theorem Ix {n:Int}:Up 0 (.int .i64 n) (fun _:Int=>n):=fun S ids cs x h=>by
 obtain ⟨rfl,rfl⟩:=h
 exact ⟨Nat.zero_lt_one,rfl,rfl⟩
theorem LE_ {α β:Type} [ea:Enc α] [eb:Enc β] [a:Tr α] [b:Tr β] {o:Nat} {c:AV} {f:α→β} {u:β→β} {v:α→α} (hu:Up (α:=β) o c u) (h:(fun S ids cs x=>a.ow S ids cs x) = fun S ids cs x=>b.ow S ids cs (f x)) (hv:∀ x,f (v x) = u (f x)):Up (α:=α) o c v:=fun S ids cs x hx=>by
 have h':∀ S ids cs x,a.ow S ids cs x = b.ow S ids cs (f x):=fun S ids cs x=>congrFun (congrFun (congrFun (congrFun h S) ids) cs) x
 rw [h'] at hx ⊢
 rw [hv]
 exact hu S ids cs (f x) hx
section
variable {α β:Type} [ea:Enc α] [eb:Enc β] [a:Tr α] [b:Tr β]
theorem MR {o:Nat} {c:AV} {f:α→α} (h:Up o c f):Up o c (fun x:α×β=>(f x.1,x.2)):=fun S ids cs x hx=>by
 obtain ⟨i1,i2,c1,c2,rfl,hn,rfl,h1,h2⟩:=hx
 obtain ⟨k1,k2⟩:=h S i1 c1 x.1 h1
 refine ⟨by rw [List.length_append]; omega,i1,i2,c1.set o c,c2,rfl,hn,?_,k2,h2⟩
 rw [List.set_append_left _ _ k1]
theorem F6 {o:Nat} {c:AV} {f:β→β} (h:Up o c f):Up (ea.sz + o) c (fun x:α×β=>(x.1,f x.2)):=fun S ids cs x hx=>by
 obtain ⟨i1,i2,c1,c2,rfl,hn,rfl,h1,h2⟩:=hx
 obtain ⟨k1,k2⟩:=h S i2 c2 x.2 h2
 have hl:=a.len h1
 refine ⟨by rw [List.length_append]; omega,i1,i2,c1,c2.set o c,rfl,hn,?_,h1,k2⟩
 rw [List.set_append_right _ _ (by omega),hl,Nat.add_sub_cancel_left]
def Fo {γ:Type} [eg:Enc γ] [g:Tr γ] (o:Nat) (get:α→γ) (set:γ→α→α):Prop:=∀ (S:St) (ids:List Nat) (cs:List AV) (x:α),a.ow S ids cs x→o + eg.sz≤cs.length∧∃ i,g.ow S i ((cs.drop o).take eg.sz) (get x)∧(∀ j∈i,j∈ids)∧∀ (S':St) (y:γ),(∀ j∈ids,j ∉ i→S'[j]? = S[j]?)→g.ow S' i ((cs.drop o).take eg.sz) y→a.ow S' ids cs (set y x)
end
theorem IZ {T:Type} [e:Enc T] [t:Tr T] {L:List En} {W:List AV→AV} {v:AV} {us:List Nat} {cs:List AV} {x:T} (hb:TB L us cs x) (hv:v = W cs):Okh L (fun S=>some (v,S)) (some x) (P1 W):=fun S hS y hy=>by
 injection hy with hy; subst hy; subst hv
 obtain ⟨ids,h1,_⟩:=hb S hS
 exact ⟨_,rfl,ids,cs,rfl,h1⟩
theorem Bn {T:Type} [e:Enc T] [t:Tr T] {L:List En} {W:List AV→AV} {v:AV} {y:St→Option AV} {us:List Nat} {cs:List AV} {x:T} (hy:∀ S,HP S L→y S = some v) (hb:TB L us cs x) (hv:v = W cs):Okh L (fun S=>(y S).map (·,S)) (some x) (P1 W):=fun S hS z hz=>by
 injection hz with hz; subst hz; subst hv
 obtain ⟨ids,h1,_⟩:=hb S hS
 exact ⟨(W cs,S),by show (y S).map (·,S) = _; rw [hy S hS]; rfl,ids,cs,rfl,h1⟩
section
variable {α β:Type} [ea:Enc α] [eb:Enc β] [a:Tr α] [b:Tr β] {S:St} {l:Bool}
theorem D6 (x:Int):Tr.ow S [] (Enc.cs l x) x:=⟨rfl,rfl⟩
theorem QV (x:Bool):Tr.ow S [] (Enc.cs l x) x:=⟨rfl,rfl⟩
theorem LU (x:Str):Tr.ow S [] (Enc.cs l x) x:=⟨rfl,rfl⟩
theorem Da (h1:∀ x:α,a.ow S [] (ea.cs l x) x) (h2:∀ x:β,b.ow S [] (eb.cs l x) x) (x:α×β):Tr.ow S [] (Enc.cs l x) x:=⟨[],[],_,_,rfl,List.nodup_nil,rfl,h1 _,h2 _⟩
end
theorem HP.cell1t {α:Type} [e:Enc α] [t:Tr α] {S:St} {L:List En} (h:HP S L) {ids:List Nat} {v:AV} {xs:List α} (k:Nat) (hL:L[k]? = some (tr ids [v] xs)):AK v = [v]:=by
 obtain ⟨w,hw,⟨fl,rfl,_⟩ | ⟨b,fl,pl,es,is,rs,rfl,_⟩⟩:=show trList.ow S ids [v] xs from h.get hL
 ·injection hw with hw; subst hw; rfl
 ·injection hw with hw; subst hw; rfl
section
variable {α β:Type} [ea:Enc α] [eb:Enc β] [a:Tr α] [b:Tr β] {S:St}
end
theorem EV {T:Type} [e:Enc T] [t:Tr T] {r:Option (AV×St)} {mg:Option T} (h:Fit r mg (P1 AV.agg)) (hn:e.dp + 1≤7:=by decide):Fit r mg (P0 fun x=>AV.agg (e.cs false x)):=fun x hx=>by
 obtain ⟨⟨v,S⟩,h1,ids,cs,h2,h3⟩:=h x hx
 have h2:v = AV.agg cs:=h2
 subst h2
 refine ⟨_,h1,?_⟩
 exact (A8 (WV (n:=7) (q:=true) (L:=[tr ids cs x]) 0 rfl hn)).fzr (S:=S) ⟨fun en hen=>by rw [List.mem_singleton] at hen; subst hen; exact h3,List.pairwise_singleton _ _⟩
theorem ZU {α:Type} [e:Enc α] [t:Tr α] {r:Option (AV×St)} {mg:Option (List α)} (h:Fit r mg (P1 Lr)) (hn:e.dp + 2≤8:=by decide):Fit r mg (P0 fun x=>AV.rsl false false (x.map (e.cs false))):=fun x hx=>by
 obtain ⟨⟨v,S⟩,h1,ids,cs,h2,h3⟩:=h x hx
 obtain ⟨w,rfl,h4⟩:=h3
 have h2:v = w:=h2
 subst h2
 refine ⟨_,h1,?_⟩
 exact (Cb (n:=8) (q:=true) (L:=[tr ids [v] x]) 0 rfl hn).fzr (S:=S) ⟨fun en hen=>by rw [List.mem_singleton] at hen; subst hen; exact ⟨v,rfl,h4⟩,List.pairwise_singleton _ _⟩
end Go.Rf
