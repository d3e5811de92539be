/-
 DERIVED: THE SHELF's CONTRACTS AT THIS DUMP, IN PLAIN WORDS (tools/lay-plain.mjs out of 'TrydShelf.lean', which tools/lay-shelf.mjs wrote): THE SAME DECLARATIONS UNDER THE SAME NAMES: 'import', 'namespace', 'open', 'def', 'theorem' AND NOTHING ELSE: no command of the shelf's: FOR A HAND-IN. Each laying: the table of numbers ('.._ren') and one theorem, a field a fact of the dump's own or the kernel's comparison; each contract: ONE APPLICATION.
-/
import Derived.Shelf.Strings.Builder1
import Derived.Shelf.Strings.Builder2
import Derived.Shelf.Strings.OnBuilder
import Derived.Shelf.Small.Strs
import Derived.Shelf.Strconv.Itoa0
import Derived.Shelf.Strconv.Itoa1
import Derived.Shelf.LaysM
import Derived.Shelf.Strconv.Itoa2
import Derived.Shelf.Strconv.Itoa3
import Derived.Shelf.Strconv.Itoa4
import Derived.Shelf.Strings.Search1
import Derived.Shelf.Strings.Search2
import Derived.Shelf.Strings.Search3
import Derived.Shelf.Strings.Count
import Derived.Shelf.Strings.Shaped
import Derived.Shelf.Unicode.DecodeSlow
import Derived.Test.YtjandfmkelohdaaDoorProg
namespace Go.Proofs
open Go.Shelf
def Tryd.lays156_ren : Go.Shelf.Ren := ⟨fun | 156 => 72 | 165 => 122 | 166 => 123 | 169 => 124 | 240 => 148 | 241 => 149 | 276 => 165 | 277 => 166 | n => n, fun | 31 => 32 | 9 => 9 | 3 => 3 | 4 => 4 | 0 => 0 | 20 => 20 | 72 => 149 | 76 => 153 | 70 => 147 | 37 => 46 | 75 => 152 | 127 => 174 | 164 => 187 | 5 => 5 | 80 => 155 | n => n, fun | n => n⟩
theorem Tryd.lays156 : Go.Proofs.Lays.n156 Tryd.prog Tryd.lays156_ren := {
 mixed := by kernel_rfl
 f156 := Tryd.func72.trans (congrArg some (by kernel_rfl))
 f165 := Tryd.func122.trans (congrArg some (by kernel_rfl))
 f166 := Tryd.func123.trans (congrArg some (by kernel_rfl))
 f169 := Tryd.func124.trans (congrArg some (by kernel_rfl))
 f240 := Tryd.func148.trans (congrArg some (by kernel_rfl))
 f241 := Tryd.func149.trans (congrArg some (by kernel_rfl))
 f276 := Tryd.func165.trans (congrArg some (by kernel_rfl))
 f277 := Tryd.func166.trans (congrArg some (by kernel_rfl))
 t0 := Tryd.underlying0
 a0 := Tryd.isAgg0
 z0 := Tryd.sizeOf0
 v0 := Tryd.zeroValue0
 t3 := Tryd.underlying3
 a3 := Tryd.isAgg3
 z3 := Tryd.sizeOf3
 v3 := Tryd.zeroValue3
 t4 := Tryd.underlying4
 a4 := Tryd.isAgg4
 z4 := Tryd.sizeOf4
 v4 := Tryd.zeroValue4
 t9 := Tryd.underlying9
 a9 := Tryd.isAgg9
 z9 := Tryd.sizeOf9
 v9 := Tryd.zeroValue9
 t20 := Tryd.underlying20
 a20 := Tryd.isAgg20
 z20 := Tryd.sizeOf20
 v20 := Tryd.zeroValue20
 t31 := Tryd.underlying32
 a31 := Tryd.isAgg32
 z31 := Tryd.sizeOf32
 v31 := Tryd.zeroValue32
 t37 := Tryd.underlying46
 a37 := Tryd.isAgg46
 z37 := Tryd.sizeOf46
 v37 := Tryd.zeroValue46
 t70 := Tryd.underlying147
 a70 := Tryd.isAgg147
 z70 := Tryd.sizeOf147
 v70 := Tryd.zeroValue147
 t72 := Tryd.underlying149
 a72 := Tryd.isAgg149
 z72 := Tryd.sizeOf149
 v72 := Tryd.zeroValue149
 t75 := Tryd.underlying152
 a75 := Tryd.isAgg152
 z75 := Tryd.sizeOf152
 v75 := Tryd.zeroValue152
 t76 := Tryd.underlying153
 a76 := Tryd.isAgg153
 z76 := Tryd.sizeOf153
 v76 := Tryd.zeroValue153
 t127 := Tryd.underlying174
 a127 := Tryd.isAgg174
 z127 := Tryd.sizeOf174
 v127 := Tryd.zeroValue174
 t164 := Tryd.underlying187
 a164 := Tryd.isAgg187
 z164 := Tryd.sizeOf187
 v164 := Tryd.zeroValue187 }
theorem Tryd.Builder_Extra_156 : Builder.Extra Tryd.prog Tryd.lays156_ren := {
 sizeBuilder := by kernel_rfl
 liesBuilder := by kernel_rfl
 t5 := Tryd.underlying5
 a5 := Tryd.isAgg5
 z5 := Tryd.sizeOf5
 v5 := Tryd.zeroValue5
 infoByte := by kernel_rfl
 cellsByte := by kernel_rfl
 sizeByte := by kernel_rfl
 neB5 := by decide }
open Go.RowKit in
theorem Tryd.strings_Join_none (a : Option Addr) (c : Nat) (sep : ByteArray) (w : World) :
  Calls Tryd.prog 72 #[.slice a 0 c, .string sep] w fun e w' => e = .returned (.string ⟨#[]⟩) ∧ w' = w := Any.strings_Join_none Tryd.lays156 Tryd.Builder_Extra_156 a c sep w
open Go.RowKit in
theorem Tryd.strings_Join (bk o c : Nat) (xs : List ByteArray) (sep : ByteArray) (w : World) (hcells : ∀ (j : Nat) x, xs[j]? = some x → w.cell? ⟨bk, o + j, none⟩ = some (.string x)) (hbk : bk < w.heap.size) (hN : xs.length ≤ 140737488355328) (hcap : xs.length ≤ c) (hlen : (Lib.join (xs.map (·.data.toList)) sep.data.toList).length ≤ 140737488355328) :
  Calls Tryd.prog 72 #[.slice (some ⟨bk, o, none⟩) xs.length c, .string sep] w fun e w' => e = .returned (.string ⟨(Lib.join (xs.map (·.data.toList)) sep.data.toList).toArray⟩) ∧ Below w.heap.size w w' := Any.strings_Join Tryd.lays156 Tryd.Builder_Extra_156 bk o c xs sep w hcells hbk hN hcap hlen
def Tryd.laysM173_ren : Go.Shelf.Ren := ⟨fun | 173 => 87 | 246 => 132 | 283 => 153 | 284 => 154 | 285 => 155 | 286 => 156 | 129 => 177 | 317 => 178 | 318 => 179 | 319 => 180 | 320 => 181 | 337 => 194 | 338 => 195 | n => n, fun | 2 => 2 | 3 => 3 | 9 => 9 | 4 => 4 | 171 => 179 | 0 => 0 | 53 => 180 | 37 => 46 | 5 => 5 | 173 => 183 | 212 => 201 | 51 => 198 | 20 => 20 | 213 => 202 | 46 => 178 | 232 => 217 | 233 => 218 | n => n, fun | 17 => 0 | 18 => 2 | 19 => 3 | n => n⟩
theorem Tryd.laysM173 : Go.Proofs.LaysM.n173 Tryd.prog Tryd.laysM173_ren := {
 mixed := by kernel_rfl
 f129 := Tryd.func177.trans (congrArg some (by kernel_rfl))
 f173 := Tryd.func87.trans (congrArg some (by kernel_rfl))
 f246 := Tryd.func132.trans (congrArg some (by kernel_rfl))
 f283 := Tryd.func153.trans (congrArg some (by kernel_rfl))
 f284 := Tryd.func154.trans (congrArg some (by kernel_rfl))
 f285 := Tryd.func155.trans (congrArg some (by kernel_rfl))
 f286 := Tryd.func156.trans (congrArg some (by kernel_rfl))
 f317 := Tryd.func178.trans (congrArg some (by kernel_rfl))
 f318 := Tryd.func179.trans (congrArg some (by kernel_rfl))
 f319 := Tryd.func180.trans (congrArg some (by kernel_rfl))
 f320 := Tryd.func181.trans (congrArg some (by kernel_rfl))
 f337 := Tryd.func194.trans (congrArg some (by kernel_rfl))
 f338 := Tryd.func195.trans (congrArg some (by kernel_rfl))
 t0 := Tryd.underlying0
 a0 := Tryd.isAgg0
 z0 := Tryd.sizeOf0
 v0 := Tryd.zeroValue0
 t2 := Tryd.underlying2
 a2 := Tryd.isAgg2
 z2 := Tryd.sizeOf2
 v2 := Tryd.zeroValue2
 t3 := Tryd.underlying3
 a3 := Tryd.isAgg3
 z3 := Tryd.sizeOf3
 v3 := Tryd.zeroValue3
 t4 := Tryd.underlying4
 a4 := Tryd.isAgg4
 z4 := Tryd.sizeOf4
 v4 := Tryd.zeroValue4
 t5 := Tryd.underlying5
 a5 := Tryd.isAgg5
 z5 := Tryd.sizeOf5
 v5 := Tryd.zeroValue5
 t9 := Tryd.underlying9
 a9 := Tryd.isAgg9
 z9 := Tryd.sizeOf9
 v9 := Tryd.zeroValue9
 t20 := Tryd.underlying20
 a20 := Tryd.isAgg20
 z20 := Tryd.sizeOf20
 v20 := Tryd.zeroValue20
 t37 := Tryd.underlying46
 a37 := Tryd.isAgg46
 z37 := Tryd.sizeOf46
 v37 := Tryd.zeroValue46
 t46 := Tryd.underlying178
 a46 := Tryd.isAgg178
 z46 := Tryd.sizeOf178
 v46 := Tryd.zeroValue178
 t51 := Tryd.underlying198
 a51 := Tryd.isAgg198
 z51 := Tryd.sizeOf198
 v51 := Tryd.zeroValue198
 t53 := Tryd.underlying180
 a53 := Tryd.isAgg180
 z53 := Tryd.sizeOf180
 v53 := Tryd.zeroValue180
 t171 := Tryd.underlying179
 a171 := Tryd.isAgg179
 z171 := Tryd.sizeOf179
 v171 := Tryd.zeroValue179
 t173 := Tryd.underlying183
 a173 := Tryd.isAgg183
 z173 := Tryd.sizeOf183
 v173 := Tryd.zeroValue183
 t212 := Tryd.underlying201
 a212 := Tryd.isAgg201
 z212 := Tryd.sizeOf201
 v212 := Tryd.zeroValue201
 t213 := Tryd.underlying202
 a213 := Tryd.isAgg202
 z213 := Tryd.sizeOf202
 t232 := Tryd.underlying217
 a232 := Tryd.isAgg217
 z232 := Tryd.sizeOf217
 v232 := Tryd.zeroValue217
 t233 := Tryd.underlying218
 a233 := Tryd.isAgg218
 z233 := Tryd.sizeOf218
 v233 := Tryd.zeroValue218
 g17 := by kernel_rfl
 g18 := by kernel_rfl
 g19 := by kernel_rfl
 i0 := by kernel_rfl
 i2 := by kernel_rfl
 i3 := by kernel_rfl
 i4 := by kernel_rfl
 i5 := by kernel_rfl
 i9 := by kernel_rfl
 i20 := by kernel_rfl
 i37 := by kernel_rfl
 i46 := by kernel_rfl
 i51 := by kernel_rfl
 i53 := by kernel_rfl
 i171 := by kernel_rfl
 i173 := by kernel_rfl
 i212 := by kernel_rfl
 i232 := by kernel_rfl
 i233 := by kernel_rfl
 m17 := by kernel_rfl
 m18 := by kernel_rfl
 m19 := by kernel_rfl }
open Go.RowKit Go.Sort Go.Lib in
theorem Tryd.strconv_FormatInt_10 (n : Int) (h0 : -9223372036854775808 ≤ n) (h1 : n ≤ 9223372036854775807) (w : World) (htab : Lib.TabIs Tryd.prog w "internal/strconv.uint64pow10" .u64 Lib.pow10Tab) :
  Calls Tryd.prog 87 #[.int .i64 n, .int .i64 10] w fun e w' => e = .returned (.string ⟨(Lib.itoa n).toArray⟩) ∧ ∃ k os, w' = grow (w.drewN k) os := Any.strconv_FormatInt_10 Tryd.laysM173 n h0 h1 w htab
end Go.Proofs
