/- The evaluator 'Rf': values, the store, operations, code, calls. Plain definitions, nothing proved here. -/
import Derived.Calls
import Derived.Orders
import Derived.Below
set_option linter.unusedVariables false
set_option linter.unusedSimpArgs false
namespace Go.Rf
inductive AV where
 | int (k:IntKind) (n:Int)
 | bool (b:Bool)
 | str (s:ByteArray)
 | nilp
 | nilf
 | nili
 | errv
 | ub
 | agg (cs:List AV)
 | tup (vs:List AV)
 | fn (f:FuncId) (cap:List AV)
 | rsl (l fl:Bool) (es:List (List AV))
 | rp (l:Bool) (cs:List AV)
 | bp (b i o n L:Nat)
 | bsl (b i n L:Nat) (fl:Bool)
 | dead
 | non
 deriving Inhabited
structure Box where
 sz:Nat
 es:List (List AV)
 pl:Bool
 deriving Inhabited
abbrev St:=List Box
structure Cfg where
 P:Program
 N:Nat
 md:FuncId→FuncId→Nat
 cut:FuncId→Nat→Option (List Nat)
 ext:FuncId→Option (List AV→St→Option (AV×St))
 /-- The caller's number at a place: calls at one place may go another way. -/
 site:FuncId→Option Tmp→FuncId:=fun f _=>f
def und:AV:=.tup []
def ofC:Value→AV
 | .int k n=>.int k n
 | .bool b=>.bool b
 | .string s=>.str s
 | .pointer none=>.nilp
 | .slice none 0 0=>.rsl false true []
 | .nilFunc=>.nilf
 | .nilIface=>.nili
 | .agg _=>.non
 | .tuple _=>.non
 | _=>.dead
def Bv:AV→Bool
 | .agg _ | .tup _ | .non=>false
 | _=>true
def ofV:Value→AV
 | .agg cs=>if (cs.toList.map ofC).all Bv then .agg (cs.toList.map ofC) else .non
 | v=>ofC v
def aev (fr:List AV):Operand→AV
 | .tmp t=>fr.getD t und
 | .const v=>ofV v
 | .func f=>.fn f []
 | .global _=>.non
def AK:AV→List AV
 | .agg cs=>cs
 | .tup _=>[]
 | .non=>[]
 | v=>[v]
def AC:AV→Bool
 | .int .. | .bool _ | .str _ | .nilp | .nilf | .nili | .errv | .ub=>true
 | _=>false
def Br:AV→Bool
 | .agg cs=>rfreeL cs
 | .tup cs=>rfreeL cs
 | .fn _ cs=>rfreeL cs
 | .bp .. | .bsl ..=>false
 | _=>true
where rfreeL:List AV→Bool
 | []=>true
 | c::r=>Br c && rfreeL r
def lt:AV→Bool
 | .agg cs=>ltL cs
 | .tup cs=>ltL cs
 | .fn _ cs=>ltL cs
 | .rsl l _ _=>l
 | .rp l _=>l
 | _=>false
where ltL:List AV→Bool
 | []=>false
 | c::r=>lt c || ltL r
def CO (l:Bool) (a:AV):Bool:=Bv a && (Br a && (l || !lt a))
def Bi:AV→AV
 | .agg cs=>.agg (scrubL cs)
 | .tup cs=>.tup (scrubL cs)
 | .fn f cs=>.fn f (scrubL cs)
 | .rsl l fl es=>if l then .dead else .rsl l fl es
 | .rp l cs=>if l then .dead else .rp l cs
 | v=>v
where scrubL:List AV→List AV
 | []=>[]
 | c::r=>Bi c::scrubL r
def frz (brw:Bool) (S:St):Nat→AV→AV
 | 0,v=>if Bv v then .dead else .non
 | k + 1,v=>match v with
  | .agg cs=>.agg (cs.map (frz brw S k))
  | .tup cs=>.tup (cs.map (frz brw S k))
  | .fn f cs=>.fn f (cs.map (frz brw S k))
  | .bp b i o n L=>match S[b]? with
   | some B=>if B.es.length = L then (match B.es[i]? with
     | some e=>
      let cs:=(e.drop o).take n
      if B.pl then .rp brw cs else (let cs':=cs.map (frz brw S k); .rp (brw || cs'.any lt) cs')
     | none=>.dead) else .dead
   | none=>.dead
  | .bsl b i n L fl=>match S[b]? with
   | some B=>if B.es.length = L then
      (let es:=(B.es.drop i).take n
       if B.pl then .rsl brw fl es else (let es':=es.map (·.map (frz brw S k)); .rsl (brw || es'.any (·.any lt)) fl es')) else .dead
   | none=>.dead
  | .rsl l fl es=>.rsl l fl es
  | .rp l cs=>.rp l cs
  | v=>v
def ltD:Nat→AV→Bool
 | 0,_=>true
 | k + 1,v=>match v with
  | .agg cs=>cs.any (ltD k)
  | .tup cs=>cs.any (ltD k)
  | .fn _ cs=>cs.any (ltD k)
  | .rsl l _ es=>l || es.any (·.any (ltD k))
  | .rp l cs=>l || cs.any (ltD k)
  | _=>false
def nrm (l:Bool):Nat→AV→AV
 | 0,v=>v
 | k + 1,v=>match v with
  | .agg cs=>.agg (cs.map (nrm l k))
  | .tup cs=>.tup (cs.map (nrm l k))
  | .fn f cs=>.fn f (cs.map (nrm l k))
  | .rsl _ _ es=>.rsl l false (es.map (·.map (nrm l k)))
  | .rp _ cs=>.rp l (cs.map (nrm l k))
  | v=>v
def nz (v:AV):AV:=nrm (ltD 8 v) 8 v
def fz (S:St) (v:AV):AV:=nz (frz true S 8 v)
def fzr (S:St) (v:AV):AV:=nz (Bi (frz false S 8 v))
def shv (d:Nat):AV→AV
 | .agg cs=>.agg (shL d cs)
 | .tup cs=>.tup (shL d cs)
 | .fn f cs=>.fn f (shL d cs)
 | .bp b i o n L=>.bp (b + d) i o n L
 | .bsl b i n L fl=>.bsl (b + d) i n L fl
 | v=>v
where shL (d:Nat):List AV→List AV
 | []=>[]
 | c::r=>shv d c::shL d r
def shB (d:Nat) (B:Box):Box:=if B.pl then B else { B with es:=B.es.map (·.map fun v=>shv d (Bi v)) }
def BY (S:St):AV→Option (List AV)
 | .rp _ cs=>some cs
 | .bp b i o n L=>match S[b]? with
  | some B=>if B.es.length = L then (match B.es[i]? with
    | some e=>some ((e.drop o).take n)
    | none=>none) else none
  | none=>none
 | _=>none
def ld1 (S:St) (p:AV):Option AV:=match BY S p with
 | some [c]=>some c
 | _=>none
def ldA (S:St) (p:AV) (s:Nat):Option AV:=match BY S p with
 | some cs=>if cs.length = s then some (.agg cs) else none
 | none=>none
def BL (e:List AV) (o:Nat) (cs:List AV):List AV:=e.take o++(cs++e.drop (o + cs.length))
def stA (S:St) (p:AV) (cs:List AV):Option St:=match p with
 | .bp b i o n L=>match S[b]? with
  | some B=>if B.es.length = L∧cs.length = n then (match B.es[i]? with
    | some e=>some (S.set b { B with es:=B.es.set i (BL e o cs),pl:=B.pl && cs.all AC })
    | none=>none) else none
  | none=>none
 | _=>none
def A5 (S:St) (cs:List AV):AV×St:=(.bp S.length 0 0 cs.length 1,S++[⟨cs.length,[cs],cs.all AC⟩])
def CL (p:AV) (o' s:Nat):Option AV:=match p with
 | .rp l cs=>some (.rp l ((cs.drop o').take s))
 | .bp b i o n L=>if o' + s≤n then some (.bp b i (o + o') s L) else none
 | _=>none
def B8 (sz:Nat) (x i:AV) (S:St):Option AV:=match x,i with
 | .rsl l _ es,.int _ i=>if 0≤i then (match es[i.toNat]? with | some e=>if e.length = sz then some (.rp l e) else none | none=>none) else none
 | .bsl b i0 n L _,.int _ i=>if 0≤i∧i < n then (match S[b]? with | some B=>if B.sz = sz then some (.bp b (i0 + i.toNat) 0 sz L) else none | none=>none) else none
 | _,_=>none
def Fe:AV→Option AV
 | .rsl _ _ es=>some (.int .i64 es.length)
 | .bsl _ _ n _ _=>some (.int .i64 n)
 | _=>none
def FD:AV→Option AV
 | .str s=>some (.int .i64 s.size)
 | _=>none
def IU (x:AV) (ag:Bool) (off s:Nat):Option AV:=match x with
 | .agg cs=>if ag then (if off + s≤cs.length then some (.agg ((cs.drop off).take s)) else none) else cs[off]?
 | _=>none
def Cj (x i:AV):Option AV:=match x,i with
 | .str s,.int _ i=>if 0≤i then (match s[i.toNat]? with | some b=>some (.int .u8 b.toNat) | none=>none) else none
 | _,_=>none
def Dz:Option AV→Option (Option Nat)
 | none=>some none
 | some (.int _ i)=>if 0≤i then some (some i.toNat) else none
 | _=>none
def E8 (sz:Nat) (x:AV) (lo hi mx:Option AV) (S:St):Option AV:=
 match Dz lo,Dz hi,Dz mx with
 | some lo,some hi,some mx=>
  let l:=lo.getD 0
  match x with
  | .str s=>match mx with
   | none=>let h:=hi.getD s.size; if l≤h∧h≤s.size then some (.str (s.extract l h)) else none
   | some _=>none
  | .rsl b fl es=>let h:=hi.getD es.length
   if l≤h∧h≤es.length∧es.all (·.length == sz) then
    match mx with
    | none=>some (.rsl b (fl && h == es.length) ((es.drop l).take (h - l)))
    | some m=>match hi with
     | none=>none
     | some _=>if h≤m∧m≤es.length then some (.rsl b (m == h) ((es.drop l).take (h - l))) else none
   else none
  | .bsl b i n L fl=>let h:=hi.getD n
   match S[b]? with
   | none=>none
   | some B=>
    if B.es.length = L∧B.sz = sz∧l≤h∧(h≤n∨(fl = false∧i + h≤L)) then
     match mx with
     | none=>if fl = false∨h = n∨i + n = L then some (.bsl b (i + l) (h - l) L (fl && h == n)) else none
     | some m=>match hi with
      | none=>none
      | some _=>if m = h then some (.bsl b (i + l) (h - l) L true) else
        if h≤m∧(m≤n∨(fl = false∧i + m≤L)) then some .dead else none
    else none
  | _=>none
 | _,_,_=>none
def RH:TypeDesc→Bool
 | .struct _ | .array ..=>true
 | _=>false
def fV (P:Program) (t:TypeId) (a b:AV):Option Bool:=match P.underlying t,a,b with
 | some .bool,.bool x,.bool y=>some (x == y)
 | some (.int _),.int k x,.int k' y=>if k = k' then some (x == y) else none
 | some .string,.str x,.str y=>some (x.toList == y.toList)
 | _,_,_=>none
def X5 (P:Program) (eq:TypeId→List AV→List AV→Option Bool) (xs ys:List AV):List Field→Option Bool
 | []=>some true
 | f :: fs => if f.name = "_" then none else
  match (match P.underlying f.type with
   | some d=>if RH d then (if f.offset + P.cellsOf f.type≤xs.length∧f.offset + P.cellsOf f.type≤ys.length then
      eq f.type ((xs.drop f.offset).take (P.cellsOf f.type)) ((ys.drop f.offset).take (P.cellsOf f.type)) else none)
     else (match xs[f.offset]?,ys[f.offset]? with | some a,some b=>fV P f.type a b | _,_=>none)
   | none=>none),X5 P eq xs ys fs with
  | some a,some b=>some (a && b)
  | _,_=>none
def X4 (P:Program):Nat→TypeId→List AV→List AV→Option Bool
 | 0,_,_,_=>none
 | d + 1,t,xs,ys=>match P.underlying t with
  | some (.struct fs)=>if P.stoodInHeld t then none else X5 P (X4 P d) xs ys fs.toList
  | _=>none
def OZ (P:Program) (t:TypeId) (a b:AV):Option Bool:=match P.underlying t,a,b with
 | some .bool,.bool x,.bool y=>some (x == y)
 | some (.struct _),.agg xs,.agg ys=>if P.eqGuardType P.depth t then none else X4 P 20 t xs ys
 | some (.pointer _),.nilp,.nilp=>some true
 | some (.pointer _),.rp ..,.nilp=>some false
 | some (.pointer _),.bp ..,.nilp=>some false
 | some (.func ..),.fn ..,.nilf=>some false
 | some (.func ..),.nilf,.nilf=>some true
 | some (.interface _),.errv,.nili=>some false
 | some (.interface _),.nili,.nili=>some true
 | _,_,_=>none
def Ec (P:Program) (t:TypeId) (a:AV):Option AV:=match P.underlying t with
 | some (.slice _)=>(match a with
  | .rsl _ _ (_::_)=>some (.bool false)
  | .rsl _ _ []=>some .ub
  | .bsl ..=>some (.bool false)
  | _=>none)
 | _=>none
def Nv:BinOp→Operand→Bool
 | .eql,.const (.slice none 0 0)=>true
 | _,_=>false
noncomputable def MF {ρ:Type} (x y:Option ρ):Option ρ:=open Classical in if x = y then x else none
theorem Qz {ρ:Type} {x y:Option ρ} {r:ρ} (h:MF x y = some r):x = some r∧y = some r:=by
 unfold MF at h
 split at h
 ·rename_i e; exact ⟨h,e ▸ h⟩
 ·cases h
theorem OP {ρ:Type} {x y:Option ρ} (h:x = y):MF x y = x:=by unfold MF; rw [if_pos h]
def YA:BinOp→Bool
 | .shl | .shr=>true
 | _=>false
def ash (op:BinOp) (k:IntKind) (x y:Int):Option AV:=if y < 0 then none else match op with
 | .shl=>some (.int k (k.wrap (x * 2 ^ (min y.toNat k.bits))))
 | .shr=>some (.int k (x.fdiv (2 ^ (min y.toNat k.bits))))
 | _=>none
def Ss (op:BinOp) (k:IntKind) (x y:Int):Option AV:=match op with
 | .and=>some (.int k (k.wrap ((BitVec.ofInt k.bits x &&& BitVec.ofInt k.bits y).toNat)))
 | .or=>some (.int k (k.wrap ((BitVec.ofInt k.bits x ||| BitVec.ofInt k.bits y).toNat)))
 | .xor=>some (.int k (k.wrap ((BitVec.ofInt k.bits x ^^^ BitVec.ofInt k.bits y).toNat)))
 | _=>none
def D1 (P:Program) (op:BinOp) (t:TypeId) (a b:AV):Option AV:=match a,b with
 | .int k x,.int k' y=>bif YA op then ash op k x y else if k = k' then
   (match op with
    | .and=>Ss .and k x y
    | .or=>Ss .or k x y
    | .xor=>Ss .xor k x y
    | .add=>some (.int k (k.wrap (x + y)))
    | .sub=>some (.int k (k.wrap (x - y)))
    | .mul=>some (.int k (k.wrap (x * y)))
    | .quo=>if y = 0 then none else some (.int k (k.wrap (x.tdiv y)))
    | .rem=>if y = 0 then none else some (.int k (x.tmod y))
    | .eql=>some (.bool (x == y))
    | .neq=>some (.bool (x != y))
    | .lss=>some (.bool (x < y))
    | .leq=>some (.bool (x≤y))
    | .gtr=>some (.bool (x > y))
    | .geq=>some (.bool (x ≥ y))
    | _=>none) else none
 | .str s,.str u=>match op with
   | .add=>if s.size + u.size≤4611686018427387904 then some (.str (s++u)) else none
   | .eql=>some (.bool (s.toList == u.toList))
   | .neq=>some (.bool !(s.toList == u.toList))
   | .lss=>some (.bool (Op.bytesLess s.toList u.toList))
   | .leq=>some (.bool (Op.bytesLess s.toList u.toList || s.toList == u.toList))
   | .gtr=>some (.bool !(Op.bytesLess s.toList u.toList || s.toList == u.toList))
   | .geq=>some (.bool !(Op.bytesLess s.toList u.toList))
   | _=>none
 | a,b=>match op with
   | .eql=>(OZ P t a b).map fun r=>.bool r
   | .neq=>(OZ P t a b).map fun r=>.bool !r
   | _=>none
def aun (op:UnOp) (a:AV):Option AV:=match op,a with
 | .neg,.int k n=>some (.int k (k.wrap (0 - n)))
 | .not,.bool b=>some (.bool !b)
 | _,_=>none
def Iq:List (List AV)→Option (List UInt8)
 | []=>some []
 | [.int .u8 n]::r=>(Iq r).map (UInt8.ofNat n.toNat::·)
 | _=>none
def Dw (P:Program) (src dst:TypeId) (x:AV) (S:St):Option AV:=
 match P.underlying src with
 | none=>none
 | some s=>match P.underlying dst with
  | some (.int k)=>(match x with | .int _ n=>some (.int k (k.wrap n)) | _=>none)
  | some .string=>(match s with
   | .string=>(match x with | .str s=>some (.str s) | _=>none)
   | .slice e=>(match P.underlying e with
    | some (.int .u8)=>(match fz S x with | .rsl _ _ es=>(Iq es).map fun l=>.str ⟨l.toArray⟩ | _=>none)
    | _=>none)
   | _=>none)
  | _=>none
def Bq (place:Nat→Option (Nat×Nat)) (cells:List AV):List (Nat×AV)→Option (List AV)
 | []=>some cells
 | (i,v)::rest=>match place i with
  | none=>none
  | some (off,size)=>if size≠0∧(AK v).length = size∧off + size≤cells.length then Bq place (BL cells off (AK v)) rest else none
abbrev EZ:=RH
def EP (P:Program) (t:TypeId):Option (List AV):=match P.info? t with
 | some i=>i.zero.map fun z=>AK (ofV z)
 | none=>none
def Aw (P:Program) (t:TypeId) (parts:List (Nat×AV)):Option AV:=match P.underlying t,EP P t with
 | some (.struct fs),some z=>if z.length≠0∧(fs.all fun f=>(P.info? f.type).isSome) then
   (Bq (fun i=>(fs[i]?).map fun f=>(f.offset,P.cellsOf f.type)) z parts).map .agg else none
 | _,_=>none
def Dh (sz:Nat):Nat→List (Nat×AV)→Option (List (List AV))
 | _,[]=>some []
 | k,(i,v)::r=>if i = k∧(AK v).length = sz then (Dh sz (k + 1) r).map (AK v::·) else none
def mkS (sz:Nat) (es:List (List AV)) (S:St):AV×St:=
 if es.all (·.all Br) then (.rsl (es.any (·.any lt)) true es,S)
 else (.bsl S.length 0 es.length es.length true,S++[⟨sz,es,es.all (·.all AC)⟩])
def A3 (P:Program) (t:TypeId) (len:Nat) (parts:List (Nat×AV)) (S:St):Option (AV×St):=match P.underlying t with
 | some (.slice e)=>match P.info? e with
  | some i=>if 0 < i.size∧parts.length = len∧len≤4096∧i.size≤4096∧i.zero.isSome then (Dh i.size 0 parts).map fun es=>mkS i.size es S else none
  | none=>none
 | _=>none
def aF (P:Program) (t:TypeId):Bool:=match P.underlying t with | some (.int _)=>true | some .string=>true | some .bool=>true | _=>false
def ZW (P:Program) (t:TypeId):Bool:=match P.underlying t with | some (.struct gs)=>gs.all fun g=>aF P g.type | _=>false
def XS (P:Program) (t:TypeId):Bool:=match P.underlying t with
 | some (.slice e)=>(match P.underlying e with | some (.int _)=>true | some .string=>true | some (.struct fs)=>(fs.any fun f=>ZW P f.type) && fs.all fun f=>aF P f.type || ZW P f.type | _=>false)
 | _=>false
def AN (x:Option (AV×St)) (S:St):Option (AV×St):=match x with
 | some (.rsl l fl es,_)=>some (.rsl l fl es,S)
 | _=>none
def Hh (P:Program) (t:TypeId) (len cap:AV) (S:St):Option (AV×St):=match P.underlying t,len,cap with
 | some (.slice e),.int .i64 n,.int .i64 c=>match P.info? e,EP P e with
  | some i,some z=>if 0≤n∧n = c∧(c.toNat + 1) * (i.bytes + 1)≤70368744177664∧z.length = i.size∧0 < i.size∧z.all (fun c=>!ltD 2 c)
    then some (.bsl S.length 0 n.toNat n.toNat true,S++[⟨i.size,List.replicate n.toNat (z.map (nrm false 2)),(z.map (nrm false 2)).all AC⟩]) else none
  | _,_=>none
 | _,_,_=>none
def BU (S:St):AV→Option (List (List AV))
 | .rsl _ _ es=>some es
 | .bsl b i n L _=>match S[b]? with
  | some B=>if B.es.length = L then some ((B.es.drop i).take n) else none
  | none=>none
 | _=>none
def EA (s:ByteArray):List (List AV):=s.data.toList.map fun b=>[.int .u8 b.toNat]
def FC (sz by_:Nat) (s:AV) (news:List (List AV)) (S:St):Option (AV×St):=
 match news with
 | []=>match s with
  | .rsl l fl es=>some (.rsl l fl es,S)
  | .bsl b i n L fl=>match S[b]? with
   | some B=>if B.es.length = L∧i + n≤L then some (.bsl b i n L fl,S) else none
   | none=>none
  | _=>none
 | _::_=>if !news.all (·.length == sz) then none else match s with
  | .rsl _ fl es=>if fl∧es.all (·.length == sz)∧(es.length + news.length) * (by_ + 1)≤17592186044416
    then some (.bsl S.length 0 (es.length + news.length) (es.length + news.length) false,S++[⟨sz,es++news,(es++news).all (·.all AC)⟩]) else none
  | .bsl b i n L fl=>match S[b]? with
   | none=>none
   | some B=>if B.es.length = L∧B.sz = sz∧i + n≤L∧(L + news.length) * (by_ + 1)≤17592186044416 then
     (if fl then some (.bsl S.length 0 (n + news.length) (n + news.length) false,S++[⟨sz,(B.es.drop i).take n++news,B.pl && news.all (·.all AC)⟩])
      else if i + n = L then (if i = 0 then
        some (.bsl b 0 (n + news.length) (L + news.length) false,S.set b { B with es:=B.es++news,pl:=B.pl && news.all (·.all AC) }) else none)
      else if i + n + news.length≤L then
        some (.bsl b i (n + news.length) L false,S.set b { B with es:=B.es.take (i + n)++(news++B.es.drop (i + n + news.length)),pl:=B.pl && news.all (·.all AC) })
      else none) else none
  | _=>none
def Ed (P:Program) (t:TypeId) (x:AV) (S:St):Option (AV×St):=match P.underlying t with
 | some (.slice e)=>match EP P e with
  | some z=>match x with
   | .rsl _ _ []=>some (und,S)
   | .bsl b i n L _=>if n = 0 then some (und,S) else match S[b]? with
    | some B=>if B.es.length = L∧z.length = B.sz∧i + n≤L then
      some (und,S.set b { B with es:=B.es.take i++(List.replicate n z++B.es.drop (i + n)),pl:=B.pl && z.all AC }) else none
    | none=>none
   | _=>none
  | none=>none
 | _=>none
def X6 (x:AV) (S:St):Option AV:=match x with
 | .rsl _ true es=>some (.int .i64 es.length)
 | .bsl b i n L true=>(match S[b]? with | some B=>if B.es.length = L∧i + n≤L then some (.int .i64 n) else none | none=>none)
 | _=>none
def amax (mn:Bool):List AV→Option AV
 | [.int k x,.int k' y]=>if k = k' then some (.int k (if mn then (if y < x then y else x) else (if y > x then y else x))) else none
 | _=>none
section
variable (C:Cfg) (run:FuncId→List AV→St→Option (AV×St)) (f:FuncId)
def XC (S S1:St):Prop:=∃ E,S1 = S++E
open Classical in
noncomputable def MJ (g:FuncId) (args:List AV) (S:St):Option (AV×St):=
 match C.P.funcs[g]? with
 | none=>none
 | some fn=>if fn.body.isNone then none else
 match C.md f g with
 | 0=>match run g (args.map (fz S)) [] with
  | some (v,S1)=>some (fzr S1 v,S)
  | none=>none
 | 1=>match run g (args.map (fz S)) [] with
  | some (v,S1)=>some (shv S.length (Bi v),S++S1.map (shB S.length))
  | none=>none
 | 3=>match run g args S with
  | some (v,S1)=>if XC S S1 then some (v,S1) else none
  | none=>none
 | _=>run g args S
def G9 (b:Builtin) (ts:Array TypeId) (args:List AV) (S:St):Option (AV×St):=
 match b with
 | .len=>match ts[0]?,args with
  | some t,[x]=>match C.P.underlying t with
   | some (.slice _)=>(Fe x).map (·,S)
   | some .string=>(FD x).map (·,S)
   | _=>none
  | _,_=>none
 | .append=>match ts[0]?,ts[1]?,args with
  | some t,some t',[s,x]=>match C.P.underlying t,C.P.underlying t' with
   | some (.slice e),some d=>match C.P.info? e with
    | some i=>match (match d with | .slice _=>BU S x | .string=>(match x with | .str u=>(if i.size = 1 then some (EA u) else none) | _=>none) | _=>none) with
     | some news=>if 0 < i.size∧(i.zero.map fun z=>z.cells.size) = some i.size then FC i.size i.bytes s news S else none
     | none=>none
    | none=>none
   | _,_=>none
  | _,_,_=>none
 | .clear=>match ts[0]?,args with | some t,[x]=>Ed C.P t x S | _,_=>none
 | .max=>(amax false args).map (·,S)
 | .min=>(amax true args).map (·,S)
 | .cap=>match ts[0]?,args with
  | some t,[x]=>match C.P.underlying t with
   | some (.slice _)=>(X6 x S).map (·,S)
   | _=>none
  | _,_=>none
 | _=>none
noncomputable def aop (fr:List AV) (S:St) (o:Oper):Option (AV×St):=
 match o.op with
 | .move x | .assign x=>some (aev fr x,S)
 | .pick c a b=>match aev fr c with | .bool t=>some (if t then aev fr a else aev fr b,S) | _=>none
 | .alloc t=>match EP C.P t with | some z=>if z.length = 0 then none else some (A5 S z) | none=>none
 | .box _ x=>if (AK (aev fr x)).length = 0 then none else some (A5 S (AK (aev fr x)))
 | .build t parts=>(Aw C.P t (parts.toList.map fun (i,x)=>(i,aev fr x))).map (·,S)
 | .buildSlice t len parts=>bif XS C.P t || Nat.beq len 0 then AN (A3 C.P t len (parts.toList.map fun (i,x)=>(i,aev fr x)) S) S else A3 C.P t len (parts.toList.map fun (i,x)=>(i,aev fr x)) S
 | .load t p=>match C.P.underlying t with
  | some d=>if EZ d then (ldA S (aev fr p) (C.P.cellsOf t)).map (·,S) else (ld1 S (aev fr p)).map (·,S)
  | none=>none
 | .store t p x=>if (AK (aev fr x)).length = C.P.cellsOf t∧C.P.cellsOf t≠0 then (stA S (aev fr p) (AK (aev fr x))).map (und,·) else none
 | .nilCheck x=>match aev fr x with
  | .rp l cs=>some (.rp l cs,S)
  | .bp b i o n L=>some (.bp b i o n L,S)
  | .fn g cs=>some (.fn g cs,S)
  | _=>none
 | .binOp op t x y _=>(bif Nv op y then Ec C.P t (aev fr x) else match x,y with
   | .tmp _,.tmp _=>(match aev fr x,aev fr y with | .nili,.nili=>none | a,b=>D1 C.P op t a b)
   | _,_=>D1 C.P op t (aev fr x) (aev fr y)).map (·,S)
 | .unOp op _ x=>(aun op (aev fr x)).map (·,S)
 | .convert src dst x=>(Dw C.P src dst (aev fr x) S).map (·,S)
 | .makeFunc fn first cap=>match fn with
  | .func g=>if first.size = 0 then some (.fn g (cap.toList.map (aev fr)),S) else none
  | _=>none
 | .makeSlice t l c=>Hh C.P t (aev fr l) (aev fr c) S
 | .slice t x lo hi mx=>match C.P.underlying t with
  | some (.slice e)=>if 0 < C.P.cellsOf e then (match aev fr x with | .str _=>none | x=>(E8 (C.P.cellsOf e) x (lo.map (aev fr)) (hi.map (aev fr)) (mx.map (aev fr)) S).map (·,S)) else none
  | some .string=>(match aev fr x with | .str s=>(E8 0 (.str s) (lo.map (aev fr)) (hi.map (aev fr)) (mx.map (aev fr)) S).map (·,S) | _=>none)
  | _=>none
 | .fieldAddr t p i=>match C.P.underlying t with
  | some (.struct fs)=>match fs[i]? with
   | some g=>if 0 < C.P.cellsOf g.type then (CL (aev fr p) g.offset (C.P.cellsOf g.type)).map (·,S) else none
   | none=>none
  | _=>none
 | .field t x i=>match C.P.underlying t with
  | some (.struct fs)=>match fs[i]? with
   | some g=>match C.P.underlying g.type with
    | some d=>(IU (aev fr x) (EZ d) g.offset (C.P.cellsOf g.type)).map (·,S)
    | none=>none
   | none=>none
  | _=>none
 | .indexAddr t x i=>match C.P.underlying t with
  | some (.slice e)=>if 0 < C.P.cellsOf e then (B8 (C.P.cellsOf e) (aev fr x) (aev fr i) S).map (·,S) else none
  | _=>none
 | .index t x i=>match C.P.underlying t with
  | some .string=>(Cj (aev fr x) (aev fr i)).map (·,S)
  | _=>none
 | .extract t i=>match aev fr t with | .tup vs=>(vs[i]?).map (·,S) | _=>none
 | .call c=>match c.callee with
  | .builtin b=>G9 C b c.argTypes (c.args.toList.map (aev fr)) S
  | .value g=>match aev fr g with
   | .fn g cap=>MJ C run (C.site f o.dst) g (c.args.toList.map (aev fr)++cap) S
   | _=>none
  | _=>none
 | _=>none
def DG (fr:List AV):Option Tmp→AV→List AV
 | some d,v=>fr.set d v
 | none,_=>fr
def BX (o:Oper):Bool:=
 match o.op with
 | .move _ | .assign _ | .pick .. | .build .. | .load .. | .nilCheck _ | .binOp .. | .unOp .. | .convert ..
 | .makeFunc .. | .slice .. | .fieldAddr .. | .field .. | .indexAddr .. | .index .. | .extract ..=>true
 | .call c=>match c.callee with
  | .builtin b=>(match b with | .len | .max | .min | .cap=>true | _=>false)
  | .value (.func g)=>C.md (C.site f o.dst) g == 0
  | _=>false
 | .buildSlice t len _=>XS C.P t || Nat.beq len 0
 | _=>false
noncomputable def Q9 {ρ:Type} (fr:List AV) (S:St) (o:Oper) (k:AV→St→Option ρ):Option ρ:=
 bif BX C f o then (match aop C run f fr S o with | some (v,_)=>k v S | none=>none)
 else (match aop C run f fr S o with | some (v,S1)=>k v S1 | none=>none)
def LI (sk:List Nat):Option Tmp→List Nat
 | some d=>d::sk
 | none=>sk
def NP (sk:List Nat):Option Tmp→List Nat
 | some d=>sk.filter fun t=>!Nat.beq t d
 | none=>sk
def Ff:List Nat→Nat→Bool
 | [],_=>false
 | d::r,t=>bif Nat.beq d t then true else Ff r t
noncomputable def Gu {ρ:Type} (ops:Array Oper) (k:List AV→St→Option ρ):List Oper→List Nat→List AV→St→Option ρ
 | [],_,fr,S=>k fr S
 | o::rest,sk,fr,S=>match o.guard with
  | none=>Q9 C run f fr S o fun v S=>Gu ops k rest (NP sk o.dst) (DG fr o.dst v) S
  | some (j,want)=>match (ops[j]?).bind (·.dst) with
   | none=>none
   | some t=>bif Ff sk t then Gu ops k rest (LI sk o.dst) (DG fr o.dst und) S
    else match fr.getD t .non with
    | .bool b=>bif b == want
      then Q9 C run f (fr.set t (.bool want)) S o fun v S=>Gu ops k rest (NP sk o.dst) (DG (fr.set t (.bool want)) o.dst v) S
      else Gu ops k rest (LI sk o.dst) (DG (fr.set t (.bool !want)) o.dst und) S
    | _=>none
inductive Dn where
 | norm (l:List AV) (S:St)
 | exit (id:Nat) (l:List AV) (S:St)
 | ret (l:List AV) (S:St)
def AW (step:List AV→St→Option Dn):Nat→List AV→St→Option Dn
 | 0,_,_=>none
 | n + 1,l,S=>(step l S).bind fun
  | .norm l S=>AW step n l S
  | o=>some o
def wr:Code→List Nat
 | .region _ ops _=>ops.toList.filterMap (·.dst)
 | .seq a b=>wr a++wr b
 | .cond _ a b=>wr a++wr b
 | .block _ b=>wr b
 | .loop b=>wr b
 | _=>[]
def Qe:Code→Option Nat
 | .region i _ _=>some i
 | .seq a b=>(Qe a).orElse fun _=>Qe b
 | .cond _ a b=>(Qe a).orElse fun _=>Qe b
 | .block _ b=>Qe b
 | .loop b=>Qe b
 | _=>none
def Qd:Code→Option Nat
 | .region i _ _=>some i
 | .seq a b=>(Qd b).orElse fun _=>Qd a
 | .cond _ a b=>(Qd b).orElse fun _=>Qd a
 | .block _ b=>Qd b
 | .loop b=>Qd b
 | _=>none
def j7 (c:Code):Nat:=(Qe c).getD 0 * 1000 + (Qd c).getD 0
def emb (w lo:List Nat) (l:List AV):Nat→List AV→List AV
 | _,[]=>[]
 | t,x::fr=>(match lo.idxOf? t with
   | some j=>l.getD j .non
   | none=>if w.contains t then .non else x)::emb w lo l (t + 1) fr
def FH (lo:List Nat) (fr:List AV):List AV:=lo.map (fr.getD · .non)
def GX (o:Oper):Bool:=match o.guard,o.op with
 | none,.alloc _=>true
 | _,_=>false
def CC (o:Oper):Bool:=BX C f o || GX o
def G5 (ops:Array Oper) (o p:Oper):Bool:=
 (match o.dst with | some d=>(p.looksAt ops).contains d || p.dst == some d | none=>false) ||
 (match p.dst with | some d=>(o.looksAt ops).contains d | none=>false)
def Eb:List Oper→List Nat→List Nat
 | [],acc=>acc
 | o::r,acc=>Eb r (acc++[o.after.toList.foldl (fun s e=>if Region.binds .any e then s ||| (2 ^ e.on) ||| acc.getD e.on 0 else s) 0])
def KP (ops:Array Oper) (i:Nat):Bool:=GX (ops.getD i default)
def EH (o:Oper):Bool:=match o.op with
 | .buildSlice ..=>true
 | .call c=>(match c.callee with
  | .value (.func g)=>C.md (C.site f o.dst) g == 1 || C.md (C.site f o.dst) g == 3
  | _=>false)
 | _=>false
def IT (ops:Array Oper) (b:List Nat) (i:Nat):Bool:=BX C f (ops.getD i default) && (List.range ops.size).all fun j=>!(b.getD i 0).testBit j || CC C f (ops.getD j default)
def Jp (ops:Array Oper):List Nat:=(List.range ops.size).filter fun i=>!KP ops i
def BA (ops:Array Oper):List Nat:=(List.range ops.size).filter (KP ops)++(if ops.toList.any (EH C f) then (Jp ops).filter (IT C f ops (Eb ops.toList []))++(Jp ops).filter (fun i=>!IT C f ops (Eb ops.toList []) i) else Jp ops)
def FA (o:Oper):Bool:=
 match o.op with
 | .move _ | .assign _ | .binOp .. | .unOp .. | .extract .. | .pick .. | .build .. | .fieldAddr .. | .nilCheck _=>true
 | .buildSlice t len _=>XS C.P t || Nat.beq len 0
 | _=>false
def Ns (o:Oper):Option Nat:=match o.op with
 | .load _ (.tmp x)=>some x
 | _=>none
def Pq (o:Oper):Option Nat:=match o.op with
 | .store _ (.tmp y) _=>some y
 | _=>none
def D8:List Nat→Nat→List Nat
 | [],_=>[]
 | k::r,i=>if k = i then r else D8 r i
def LC (o:Oper):Option Nat:=match o.op with
 | .call c=>(match c.callee,c.args.toList with
  | .builtin .append,.tmp y::_=>some y
  | _,_=>none)
 | _=>none
def U2 (ops:Array Oper) (j y:Nat):Bool:=(j::D8 (BA C f ops) j).all fun q=>(ops.getD q default).dst != some y
def GT_ (ops:Array Oper) (j:Nat):Bool:=match LC (ops.getD j default) with
 | some y=>U2 C f ops j y
 | none=>false
def nZ (ops:Array Oper) (i:Nat):List (Nat×Nat):=(D8 (BA C f ops) i).filterMap fun j=>if ((Eb ops.toList []).getD j 0).testBit i then none else (LC (ops.getD j default)).map fun y=>(y,y)
def nY (ops:Array Oper) (x i:Nat):List (Nat×Nat):=(D8 (BA C f ops) i).filterMap fun j=>if ((Eb ops.toList []).getD j 0).testBit i then none else (LC (ops.getD j default)).map fun y=>(x,y)
def YZ (o:Oper):Bool:=match o.guard,o.op with
 | none,.call c=>(match c.callee with | .value (.func _)=>true | _=>false)
 | _,_=>false
def eR (ops:Array Oper) (i:Nat):Bool:=(D8 (BA C f ops) i).all fun q=>(ops.getD q default).dst != (ops.getD i default).dst
def IJ (ops:Array Oper) (i:Nat):Bool:=match Ns (ops.getD i default) with
 | some x=>(ops.getD i default).dst != some x && (D8 (BA C f ops) i).all fun j=>(BX C f (ops.getD j default) || (EH C f (ops.getD j default) || ((Pq (ops.getD j default)).isSome || (((Eb ops.toList []).getD j 0).testBit i || (GT_ C f ops j || (YZ (ops.getD j default) && eR C f ops i)))))) && ((ops.getD j default).dst != some x && (match Pq (ops.getD j default) with
  | some y=>(j::D8 (BA C f ops) j).all fun q=>(ops.getD q default).dst != some y
  | none=>true))
 | none=>false
def RF (ops:Array Oper) (bef:List Nat) (i:Nat):Bool:=!FA C (ops.getD i default) && (D8 (BA C f ops) i).any fun j=>!(bef.getD j 0).testBit i && !(CC C f (ops.getD i default) && CC C f (ops.getD j default))
def KO (ops:Array Oper):List (Nat×Nat):=(BA C f ops).flatMap fun i=>(if KP ops i then nZ C f ops i else [])++if IJ C f ops i && RF C f ops (Eb ops.toList []) i then
 (match Ns (ops.getD i default) with
  | some x=>((D8 (BA C f ops) i).filterMap fun j=>if ((Eb ops.toList []).getD j 0).testBit i then none else (Pq (ops.getD j default)).map fun y=>(x,y))++nY C f ops x i
  | none=>[]) else []
def RG (ops:Array Oper):List (Nat×Nat):=(BA C f ops).flatMap fun i=>if IJ C f ops i && RF C f ops (Eb ops.toList []) i then
 ((D8 (BA C f ops) i).filter fun j=>!((Eb ops.toList []).getD j 0).testBit i && (YZ (ops.getD j default) && (!BX C f (ops.getD j default) && !EH C f (ops.getD j default)))).map fun j=>(j,i) else []
open Classical in
noncomputable def Zx (x:Option (AV×St)) (v:AV) (S:St) {ρ:Type} (k:Option ρ):Option ρ:=if x = some (v,S) then k else none
noncomputable def Xc (ops:Array Oper) {ρ:Type}:List (Nat×Nat)→Nat→List AV→St→Option ρ→Option ρ
 | [],_,_,_,k=>k
 | p::r,q,fr,S,k=>bif Nat.beq p.1 q then (match (ops.getD p.2 default).dst with
   | some d=>(match fr[d]? with
    | some v=>Zx (aop C run f fr S (ops.getD p.2 default)) v S (Xc ops r q fr S k)
    | none=>none)
   | none=>none) else Xc ops r q fr S k
noncomputable def Sl (ops:Array Oper) {ρ:Type} (prs:List (Nat×Nat)) (k:List AV→St→Option ρ):List Nat→List AV→St→Option ρ
 | [],fr,S=>k fr S
 | q::r,fr,S=>match (ops.getD q default).guard with
  | none=>Q9 C run f fr S (ops.getD q default) fun v S1=>Xc C run f ops prs q (DG fr (ops.getD q default).dst v) S1 (Sl ops prs k r (DG fr (ops.getD q default).dst v) S1)
  | some _=>none
noncomputable def Sj (ops:Array Oper) {ρ:Type} (k:List AV→St→Option ρ) (fr:List AV) (S:St):Option ρ:=match RG C f ops with
 | []=>Gu C run f ops k ((BA C f ops).map fun i=>ops.getD i default) [] fr S
 | p::r=>Sl C run f ops (p::r) k (BA C f ops) fr S
def EC (x y:AV):Bool:=match x,y with
 | .bp b _ _ _ _,.bp b' _ _ _ _=>b != b'
 | .bp b _ _ _ _,.bsl b' _ _ _ _=>b != b'
 | .bsl ..,.bsl ..=>false
 | _,_=>true
def apL (fr:List AV):List (Nat×Nat)→Bool
 | []=>true
 | (x,y)::r=>EC (fr.getD x .non) (fr.getD y .non) && apL fr r
def Xz (ops:Array Oper) (i j:Nat):Bool:=((CC C f (ops.getD i default) && CC C f (ops.getD j default)) || FA C (ops.getD i default) || IJ C f ops i || (GX (ops.getD i default) && (EH C f (ops.getD j default) || GT_ C f ops j))) && !G5 ops (ops.getD i default) (ops.getD j default)
def Ju (ops:Array Oper) (bef:List Nat):List Nat→Bool
 | []=>true
 | i::r=>(r.all fun j=>(bef.getD j 0).testBit i || Xz C f ops i j) && Ju ops bef r
def J2:Nat→List Oper→Bool
 | _,[]=>true
 | i,o::r=>(o.after.toList.all fun e=>!Region.binds .any e || e.on < i) && J2 (i + 1) r
def Qj (ops:Array Oper):Bool:=Ju C f ops (Eb ops.toList []) (BA C f ops) && J2 0 ops.toList
noncomputable def Et:Code→{ρ:Type}→(List AV→St→Option ρ)→(Nat→List AV→St→Option ρ)→(List AV→St→Option ρ)→List AV→St→Option ρ
 | .skip,_,kn,_,_=>kn
 | .region _ ops draw,_,kn,_,_=>fun fr S=>if draw then (if Qj C f ops then Sj C run f ops (fun fr S=>bif apL fr (KO C f ops) then kn fr S else none) fr S else none) else Gu C run f ops kn ops.toList [] fr S
 | .seq a b,_,kn,ke,kr=>fun fr S=>
  match C.cut f (j7 a) with
  | none=>Et a (fun fr S=>Et b kn ke kr fr S) ke kr fr S
  | some lo=>
   (Et a (ρ:=Dn) (fun fr S=>some (.norm (FH lo fr) S)) (fun id fr S=>some (.exit id (FH lo fr) S)) (fun fr S=>some (.ret (FH lo fr) S)) fr S).bind fun
    | .norm l S=>Et b kn ke kr (emb (wr a) lo l 0 fr) S
    | .exit id l S=>ke id (emb (wr a) lo l 0 fr) S
    | .ret l S=>kr (emb (wr a) lo l 0 fr) S
 | .cond c a b,_,kn,ke,kr=>fun fr S=>match aev fr c with
  | .bool t=>bif t then Et a kn ke kr fr S else Et b kn ke kr fr S
  | .ub=>MF (Et a kn ke kr fr S) (Et b kn ke kr fr S)
  | _=>none
 | .block id b,_,kn,ke,kr=>Et b kn (fun id' fr S=>if id' = id then kn fr S else ke id' fr S) kr
 | .loop b,_,_,ke,kr=>fun fr S=>
  match C.cut f (10000000 + j7 b) with
  | none=>none
  | some lo=>
   (AW (fun l S=>Et b (ρ:=Dn) (fun fr S=>some (.norm (FH lo fr) S)) (fun id fr S=>some (.exit id (FH lo fr) S)) (fun fr S=>some (.ret (FH lo fr) S)) (emb (wr b) lo l 0 fr) S)
    C.N (FH lo fr) S).bind fun
    | .norm _ _=>none
    | .exit id l S=>ke id (emb (wr b) lo l 0 fr) S
    | .ret l S=>kr (emb (wr b) lo l 0 fr) S
 | .exit id,_,_,ke,_=>ke id
 | .ret,_,_,_,kr=>kr
 | _,_,_,_,_=>fun _ _=>none
def CB (fr:List AV) (S:St):ResultVar→Option AV
 | .tmp t=>some (fr.getD t und)
 | .cell a t=>match C.P.underlying t with
  | some d=>if EZ d then ldA S (fr.getD a und) (C.P.cellsOf t) else ld1 S (fr.getD a und)
  | none=>none
def Dm (fr:List AV) (S:St):List ResultVar→Option AV
 | [r]=>CB C fr S r
 | []=>some und
 | [a,b]=>match CB C fr S a,CB C fr S b with | some x,some y=>some (.tup [x,y]) | _,_=>none
 | [a,b,c]=>match CB C fr S a,CB C fr S b,CB C fr S c with | some x,some y,some z=>some (.tup [x,y,z]) | _,_,_=>none
 | [a,b,c,d]=>match CB C fr S a,CB C fr S b,CB C fr S c,CB C fr S d with | some w,some x,some y,some z=>some (.tup [w,x,y,z]) | _,_,_,_=>none
 | [a,b,c,d,e]=>match CB C fr S a,CB C fr S b,CB C fr S c,CB C fr S d,CB C fr S e with | some v,some w,some x,some y,some z=>some (.tup [v,w,x,y,z]) | _,_,_,_,_=>none
 | _=>none
end
noncomputable def Ug (C:Cfg):Nat→FuncId→List AV→St→Option (AV×St)
 | 0,_,_,_=>none
 | d + 1,f,args,S=>match C.ext f with
  | some g=>g args S
  | none=>match C.P.funcs[f]? with
   | some fn=>match fn.body with
    | some c=>Et C (Ug C d) f c (fun fr S=>(Dm C fr S fn.results.toList).map (·,S)) (fun _ _ _=>none)
      (fun fr S=>(Dm C fr S fn.results.toList).map (·,S)) (args++List.replicate (fn.ntmps - args.length) und) S
    | none=>none
   | none=>none
end Go.Rf
