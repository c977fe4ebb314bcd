/-
 DERIVED: THE SHELF's CONTRACTS AT THIS DUMP, IN PLAIN WORDS (tools/lay-plain.mjs out of 'TryzShelf.lean', which tools/lay-shelf.mjs wrote): THE SAME DECLARATIONS UNDER THE SAME NAMES: 'import', 'namespace', 'open', 'def', 'theorem' AND NOTHING ELSE: no command of the shelf's: FOR A HAND-IN. Each laying: the table of numbers ('.._ren') and one theorem, a field a fact of the dump's own or the kernel's comparison; each contract: ONE APPLICATION.
-/
import Derived.Shelf.Strings.Builder1
import Derived.Shelf.Strings.Builder2
import Derived.Shelf.Strings.OnBuilder
import Derived.Shelf.Small.Bits
import Derived.Shelf.Small.Strs
import Derived.Shelf.Small.Wraps
import Derived.Shelf.Strings.BuilderF
import Derived.Shelf.Strings.BuilderK
import Derived.Shelf.Strings.Builder2Cap
import Derived.Shelf.Strconv.Atoi
import Derived.Shelf.Strconv.Itoa0
import Derived.Shelf.Strconv.Itoa1
import Derived.Shelf.LaysM
import Derived.Shelf.Strconv.Itoa2
import Derived.Shelf.Strconv.Itoa3
import Derived.Shelf.Strconv.AtoiErrFast
import Derived.Shelf.Strconv.ParseIntEmpty
import Derived.Shelf.Strconv.AtoiFail
import Derived.Shelf.Strconv.Clone
import Derived.Shelf.Strconv.SyntaxError
import Derived.Shelf.LaysC
import Derived.Shelf.Strconv.ToError
import Derived.Shelf.Strconv.AtoiErr
import Derived.Shelf.Strconv.Lower
import Derived.Shelf.Strconv.ParseUint10
import Derived.Shelf.Strconv.ParseUint10Empty
import Derived.Shelf.Strconv.ParseUint10Any
import Derived.Shelf.Strconv.ParseInt10
import Derived.Shelf.Strconv.AtoiLong
import Derived.Shelf.Strconv.AtoiInnerAll
import Derived.Shelf.Strconv.RangeError
import Derived.Shelf.Strconv.ToErrorRange
import Derived.Shelf.Strconv.AtoiAll
import Derived.Shelf.Strconv.ErrVarAll
import Derived.Shelf.Strconv.ParseUintEmpty
import Derived.Shelf.Strconv.ParseUint10b64
import Derived.Shelf.Strconv.ParseUint10b32
import Derived.Shelf.Strconv.ParseUint10b16
import Derived.Shelf.Strconv.ParseUint10b8
import Derived.Shelf.Strconv.ParseUint10At
import Derived.Shelf.Strings.Search1
import Derived.Shelf.Strings.Search2
import Derived.Shelf.Strings.Search3
import Derived.Shelf.Strings.Cut
import Derived.Shelf.Strings.Count
import Derived.Shelf.Strings.Shaped
import Derived.Shelf.Strings.Prefix
import Derived.Shelf.Strings.Split
import Derived.Shelf.Unicode.Decode
import Derived.Shelf.Strings.RuneCount
import Derived.Shelf.Strings.Explode
import Derived.Shelf.Unicode.DecodeSlow
import Derived.Shelf.Strings.BuilderCap
import Derived.Test.YtimcfaoabaflkaaGreatDoorProg
namespace Go.Proofs
open Go.Shelf
theorem kqR {P:Prop} (h:P:=by kernel_rfl):P:=h
def Tryz.lays156_ren:Go.Shelf.Ren:=⟨fun | 156=>120 | 165=>190 | 166=>191 | 169=>192 | 240=>244 | 241=>245 | 276=>278 | 277=>279 | n=>n,fun | 31=>182 | 9=>9 | 3=>3 | 4=>4 | 0=>0 | 20=>20 | 72=>297 | 76=>251 | 70=>295 | 37=>205 | 75=>250 | 127=>342 | 164=>374 | 5=>5 | 80=>223 | n=>n,fun | n=>n⟩
theorem Tryz.lays156:Go.Proofs.Lays.n156 Tryz.prog Tryz.lays156_ren:={
 mixed:=by kernel_rfl
 f156:=Tryz.func120.trans (congrArg some kqR)
 f165:=Tryz.func190.trans (congrArg some kqR)
 f166:=Tryz.func191.trans (congrArg some kqR)
 f169:=Tryz.func192.trans (congrArg some kqR)
 f240:=Tryz.func244.trans (congrArg some kqR)
 f241:=Tryz.func245.trans (congrArg some kqR)
 f276:=Tryz.func278.trans (congrArg some kqR)
 f277:=Tryz.func279.trans (congrArg some kqR)
 t0:=Tryz.underlying0
 a0:=Tryz.isAgg0
 z0:=Tryz.sizeOf0
 v0:=Tryz.zeroValue0
 t3:=Tryz.underlying3
 a3:=Tryz.isAgg3
 z3:=Tryz.sizeOf3
 v3:=Tryz.zeroValue3
 t4:=Tryz.underlying4
 a4:=Tryz.isAgg4
 z4:=Tryz.sizeOf4
 v4:=Tryz.zeroValue4
 t9:=Tryz.underlying9
 a9:=Tryz.isAgg9
 z9:=Tryz.sizeOf9
 v9:=Tryz.zeroValue9
 t20:=Tryz.underlying20
 a20:=Tryz.isAgg20
 z20:=Tryz.sizeOf20
 v20:=Tryz.zeroValue20
 t31:=Tryz.underlying182
 a31:=Tryz.isAgg182
 z31:=Tryz.sizeOf182
 v31:=Tryz.zeroValue182
 t37:=Tryz.underlying205
 a37:=Tryz.isAgg205
 z37:=Tryz.sizeOf205
 v37:=Tryz.zeroValue205
 t70:=Tryz.underlying295
 a70:=Tryz.isAgg295
 z70:=Tryz.sizeOf295
 v70:=Tryz.zeroValue295
 t72:=Tryz.underlying297
 a72:=Tryz.isAgg297
 z72:=Tryz.sizeOf297
 v72:=Tryz.zeroValue297
 t75:=Tryz.underlying250
 a75:=Tryz.isAgg250
 z75:=Tryz.sizeOf250
 v75:=Tryz.zeroValue250
 t76:=Tryz.underlying251
 a76:=Tryz.isAgg251
 z76:=Tryz.sizeOf251
 v76:=Tryz.zeroValue251
 t127:=Tryz.underlying342
 a127:=Tryz.isAgg342
 z127:=Tryz.sizeOf342
 v127:=Tryz.zeroValue342
 t164:=Tryz.underlying374
 a164:=Tryz.isAgg374
 z164:=Tryz.sizeOf374
 v164:=Tryz.zeroValue374}
theorem Tryz.Builder_Extra_156:Builder.Extra Tryz.prog Tryz.lays156_ren:={
 sizeBuilder:=by kernel_rfl
 liesBuilder:=by kernel_rfl
 t5:=Tryz.underlying5
 a5:=Tryz.isAgg5
 z5:=Tryz.sizeOf5
 v5:=Tryz.zeroValue5
 infoByte:=by kernel_rfl
 cellsByte:=by kernel_rfl
 sizeByte:=by kernel_rfl
 neB5:=by decide}
open Go.RowKit in
theorem Tryz.strings_Join (bk o c:Nat) (xs:List ByteArray) (sep:ByteArray) (w:World) (hcells:∀(j:Nat) x,xs[j]?=some x->w.cell? ⟨bk,o+j,none⟩=some (.string x)) (hbk:bk < w.heap.size) (hN:xs.length<=140737488355328) (hcap:xs.length<=c) (hlen:(Lib.join (xs.map (·.data.toList)) sep.data.toList).length<=140737488355328):
  Calls Tryz.prog 120 #[.slice (some ⟨bk,o,none⟩) xs.length c,.string sep] w λe w'=>e= .returned (.string ⟨(Lib.join (xs.map (·.data.toList)) sep.data.toList).toArray⟩)/\Below w.heap.size w w':=Any.strings_Join Tryz.lays156 Tryz.Builder_Extra_156 bk o c xs sep w hcells hbk hN hcap hlen
def Tryz.laysM171_ren:Go.Shelf.Ren:=⟨fun | 171=>136 | 243=>214 | 246=>258 | 283=>284 | 284=>285 | 285=>286 | 286=>287 | 129=>152 | 317=>300 | 318=>301 | 319=>302 | 320=>303 | 337=>311 | 338=>312 | n=>n,fun | 3=>3 | 9=>9 | 2=>2 | 4=>4 | 171=>382 | 0=>0 | 53=>37 | 37=>205 | 5=>5 | 173=>384 | 212=>406 | 51=>267 | 20=>20 | 213=>407 | 46=>186 | 232=>152 | 233=>211 | n=>n,fun | 17=>5 | 18=>6 | 19=>7 | n=>n⟩
theorem Tryz.laysM171:Go.Proofs.LaysM.n171 Tryz.prog Tryz.laysM171_ren:={
 mixed:=by kernel_rfl
 f129:=Tryz.func152.trans (congrArg some kqR)
 f171:=Tryz.func136.trans (congrArg some kqR)
 f243:=Tryz.func214.trans (congrArg some kqR)
 f246:=Tryz.func258.trans (congrArg some kqR)
 f283:=Tryz.func284.trans (congrArg some kqR)
 f284:=Tryz.func285.trans (congrArg some kqR)
 f285:=Tryz.func286.trans (congrArg some kqR)
 f286:=Tryz.func287.trans (congrArg some kqR)
 f317:=Tryz.func300.trans (congrArg some kqR)
 f318:=Tryz.func301.trans (congrArg some kqR)
 f319:=Tryz.func302.trans (congrArg some kqR)
 f320:=Tryz.func303.trans (congrArg some kqR)
 f337:=Tryz.func311.trans (congrArg some kqR)
 f338:=Tryz.func312.trans (congrArg some kqR)
 t0:=Tryz.underlying0
 a0:=Tryz.isAgg0
 z0:=Tryz.sizeOf0
 v0:=Tryz.zeroValue0
 t2:=Tryz.underlying2
 a2:=Tryz.isAgg2
 z2:=Tryz.sizeOf2
 v2:=Tryz.zeroValue2
 t3:=Tryz.underlying3
 a3:=Tryz.isAgg3
 z3:=Tryz.sizeOf3
 v3:=Tryz.zeroValue3
 t4:=Tryz.underlying4
 a4:=Tryz.isAgg4
 z4:=Tryz.sizeOf4
 v4:=Tryz.zeroValue4
 t5:=Tryz.underlying5
 a5:=Tryz.isAgg5
 z5:=Tryz.sizeOf5
 v5:=Tryz.zeroValue5
 t9:=Tryz.underlying9
 a9:=Tryz.isAgg9
 z9:=Tryz.sizeOf9
 v9:=Tryz.zeroValue9
 t20:=Tryz.underlying20
 a20:=Tryz.isAgg20
 z20:=Tryz.sizeOf20
 v20:=Tryz.zeroValue20
 t37:=Tryz.underlying205
 a37:=Tryz.isAgg205
 z37:=Tryz.sizeOf205
 v37:=Tryz.zeroValue205
 t46:=Tryz.underlying186
 a46:=Tryz.isAgg186
 z46:=Tryz.sizeOf186
 v46:=Tryz.zeroValue186
 t51:=Tryz.underlying267
 a51:=Tryz.isAgg267
 z51:=Tryz.sizeOf267
 v51:=Tryz.zeroValue267
 t53:=Tryz.underlying37
 a53:=Tryz.isAgg37
 z53:=Tryz.sizeOf37
 v53:=Tryz.zeroValue37
 t171:=Tryz.underlying382
 a171:=Tryz.isAgg382
 z171:=Tryz.sizeOf382
 v171:=Tryz.zeroValue382
 t173:=Tryz.underlying384
 a173:=Tryz.isAgg384
 z173:=Tryz.sizeOf384
 v173:=Tryz.zeroValue384
 t212:=Tryz.underlying406
 a212:=Tryz.isAgg406
 z212:=Tryz.sizeOf406
 v212:=Tryz.zeroValue406
 t213:=Tryz.underlying407
 a213:=Tryz.isAgg407
 z213:=Tryz.sizeOf407
 t232:=Tryz.underlying152
 a232:=Tryz.isAgg152
 z232:=Tryz.sizeOf152
 v232:=Tryz.zeroValue152
 t233:=Tryz.underlying211
 a233:=Tryz.isAgg211
 z233:=Tryz.sizeOf211
 v233:=Tryz.zeroValue211
 g17:=by kernel_rfl
 g18:=by kernel_rfl
 g19:=by kernel_rfl
 i0:=by kernel_rfl
 i2:=by kernel_rfl
 i3:=by kernel_rfl
 i4:=by kernel_rfl
 i5:=by kernel_rfl
 i9:=by kernel_rfl
 i20:=by kernel_rfl
 i37:=by kernel_rfl
 i46:=by kernel_rfl
 i51:=by kernel_rfl
 i53:=by kernel_rfl
 i171:=by kernel_rfl
 i173:=by kernel_rfl
 i212:=by kernel_rfl
 i232:=by kernel_rfl
 i233:=by kernel_rfl
 m17:=by kernel_rfl
 m18:=by kernel_rfl
 m19:=by kernel_rfl}
open Go.RowKit Go.Sort Go.Lib in
theorem Tryz.strconv_Itoa (n:Int) (h0: -9223372036854775808<=n) (h1:n<=9223372036854775807) (w:World) (htab:Lib.TabIs Tryz.prog w "internal/strconv.uint64pow10" .u64 Lib.pow10Tab):
  Calls Tryz.prog 136 #[.int .i64 n] w λe w'=>e= .returned (.string ⟨(Lib.itoa n).toArray⟩)/\∃k os,w'=grow (w.drewN k) os:=Any.strconv_Itoa Tryz.laysM171 n h0 h1 w htab
def Tryz.laysC245_ren:Go.Shelf.Ren:=⟨fun | 245=>213 | 279=>254 | 280=>255 | 281=>256 | 282=>257 | 316=>282 | 171=>136 | 205=>283 | 243=>214 | 246=>258 | 283=>284 | 284=>285 | 285=>286 | 286=>287 | 129=>152 | 317=>300 | 318=>301 | 319=>302 | 320=>303 | 337=>311 | 338=>312 | n=>n,fun | 9=>9 | 3=>3 | 75=>250 | 167=>348 | 4=>4 | 168=>351 | 210=>380 | 37=>205 | 0=>0 | 127=>342 | 145=>404 | 143=>402 | 2=>2 | 171=>382 | 53=>37 | 5=>5 | 173=>384 | 212=>406 | 51=>267 | 20=>20 | 213=>407 | 46=>186 | 232=>152 | 233=>211 | 80=>223 | n=>n,fun | 15=>3 | 16=>4 | 17=>5 | 18=>6 | 19=>7 | n=>n⟩
theorem Tryz.laysC245:Go.Proofs.LaysC.n245 Tryz.prog Tryz.laysC245_ren:={
 mixed:=by kernel_rfl
 f129:=Tryz.func152.trans (congrArg some kqR)
 f171:=Tryz.func136.trans (congrArg some kqR)
 f205:=Tryz.func283.trans (congrArg some kqR)
 f243:=Tryz.func214.trans (congrArg some kqR)
 f245:=Tryz.func213.trans (congrArg some kqR)
 f246:=Tryz.func258.trans (congrArg some kqR)
 f279:=Tryz.func254.trans (congrArg some kqR)
 f280:=Tryz.func255.trans (congrArg some kqR)
 f281:=Tryz.func256.trans (congrArg some kqR)
 f282:=Tryz.func257.trans (congrArg some kqR)
 f283:=Tryz.func284.trans (congrArg some kqR)
 f284:=Tryz.func285.trans (congrArg some kqR)
 f285:=Tryz.func286.trans (congrArg some kqR)
 f286:=Tryz.func287.trans (congrArg some kqR)
 f316:=Tryz.func282.trans (congrArg some kqR)
 f317:=Tryz.func300.trans (congrArg some kqR)
 f318:=Tryz.func301.trans (congrArg some kqR)
 f319:=Tryz.func302.trans (congrArg some kqR)
 f320:=Tryz.func303.trans (congrArg some kqR)
 f337:=Tryz.func311.trans (congrArg some kqR)
 f338:=Tryz.func312.trans (congrArg some kqR)
 t0:=Tryz.underlying0
 a0:=Tryz.isAgg0
 z0:=Tryz.sizeOf0
 v0:=Tryz.zeroValue0
 t2:=Tryz.underlying2
 a2:=Tryz.isAgg2
 z2:=Tryz.sizeOf2
 v2:=Tryz.zeroValue2
 t3:=Tryz.underlying3
 a3:=Tryz.isAgg3
 z3:=Tryz.sizeOf3
 v3:=Tryz.zeroValue3
 t4:=Tryz.underlying4
 a4:=Tryz.isAgg4
 z4:=Tryz.sizeOf4
 v4:=Tryz.zeroValue4
 t5:=Tryz.underlying5
 a5:=Tryz.isAgg5
 z5:=Tryz.sizeOf5
 v5:=Tryz.zeroValue5
 t9:=Tryz.underlying9
 a9:=Tryz.isAgg9
 z9:=Tryz.sizeOf9
 v9:=Tryz.zeroValue9
 t20:=Tryz.underlying20
 a20:=Tryz.isAgg20
 z20:=Tryz.sizeOf20
 v20:=Tryz.zeroValue20
 t37:=Tryz.underlying205
 a37:=Tryz.isAgg205
 z37:=Tryz.sizeOf205
 v37:=Tryz.zeroValue205
 t46:=Tryz.underlying186
 a46:=Tryz.isAgg186
 z46:=Tryz.sizeOf186
 v46:=Tryz.zeroValue186
 t51:=Tryz.underlying267
 a51:=Tryz.isAgg267
 z51:=Tryz.sizeOf267
 v51:=Tryz.zeroValue267
 t53:=Tryz.underlying37
 a53:=Tryz.isAgg37
 z53:=Tryz.sizeOf37
 v53:=Tryz.zeroValue37
 t75:=Tryz.underlying250
 a75:=Tryz.isAgg250
 z75:=Tryz.sizeOf250
 v75:=Tryz.zeroValue250
 t127:=Tryz.underlying342
 a127:=Tryz.isAgg342
 z127:=Tryz.sizeOf342
 v127:=Tryz.zeroValue342
 t143:=Tryz.underlying402
 a143:=Tryz.isAgg402
 z143:=Tryz.sizeOf402
 v143:=Tryz.zeroValue402
 t145:=Tryz.underlying404
 a145:=Tryz.isAgg404
 z145:=Tryz.sizeOf404
 v145:=Tryz.zeroValue404
 t167:=Tryz.underlying348
 a167:=Tryz.isAgg348
 z167:=Tryz.sizeOf348
 v167:=Tryz.zeroValue348
 t168:=Tryz.underlying351
 a168:=Tryz.isAgg351
 z168:=Tryz.sizeOf351
 v168:=Tryz.zeroValue351
 t171:=Tryz.underlying382
 a171:=Tryz.isAgg382
 z171:=Tryz.sizeOf382
 v171:=Tryz.zeroValue382
 t173:=Tryz.underlying384
 a173:=Tryz.isAgg384
 z173:=Tryz.sizeOf384
 v173:=Tryz.zeroValue384
 t210:=Tryz.underlying380
 a210:=Tryz.isAgg380
 z210:=Tryz.sizeOf380
 v210:=Tryz.zeroValue380
 t212:=Tryz.underlying406
 a212:=Tryz.isAgg406
 z212:=Tryz.sizeOf406
 v212:=Tryz.zeroValue406
 t213:=Tryz.underlying407
 a213:=Tryz.isAgg407
 z213:=Tryz.sizeOf407
 t232:=Tryz.underlying152
 a232:=Tryz.isAgg152
 z232:=Tryz.sizeOf152
 v232:=Tryz.zeroValue152
 t233:=Tryz.underlying211
 a233:=Tryz.isAgg211
 z233:=Tryz.sizeOf211
 v233:=Tryz.zeroValue211
 g15:=by kernel_rfl
 g16:=by kernel_rfl
 g17:=by kernel_rfl
 g18:=by kernel_rfl
 g19:=by kernel_rfl
 t80:=Tryz.underlying223
 a80:=Tryz.isAgg223
 z80:=Tryz.sizeOf223
 v80:=Tryz.zeroValue223
 i0:=by kernel_rfl
 i2:=by kernel_rfl
 i3:=by kernel_rfl
 i4:=by kernel_rfl
 i5:=by kernel_rfl
 i9:=by kernel_rfl
 i20:=by kernel_rfl
 i37:=by kernel_rfl
 i46:=by kernel_rfl
 i51:=by kernel_rfl
 i53:=by kernel_rfl
 i75:=by kernel_rfl
 i80:=by kernel_rfl
 i127:=by kernel_rfl
 i143:=by kernel_rfl
 i145:=by kernel_rfl
 i167:=by kernel_rfl
 i168:=by kernel_rfl
 i171:=by kernel_rfl
 i173:=by kernel_rfl
 i210:=by kernel_rfl
 i212:=by kernel_rfl
 i232:=by kernel_rfl
 i233:=by kernel_rfl
 m15:=by kernel_rfl
 m16:=by kernel_rfl
 m17:=by kernel_rfl
 m18:=by kernel_rfl
 m19:=by kernel_rfl
 c0:=by kernel_rfl
 c2:=by kernel_rfl
 c3:=by kernel_rfl
 c4:=by kernel_rfl
 c5:=by kernel_rfl
 c9:=by kernel_rfl
 c20:=by kernel_rfl
 c37:=by kernel_rfl
 c46:=by kernel_rfl
 c51:=by kernel_rfl
 c53:=by kernel_rfl
 c75:=by kernel_rfl
 c80:=by kernel_rfl
 c127:=by kernel_rfl
 c143:=by kernel_rfl
 c145:=by kernel_rfl
 c167:=by kernel_rfl
 c168:=by kernel_rfl
 c171:=by kernel_rfl
 c173:=by kernel_rfl
 c210:=by kernel_rfl
 c212:=by kernel_rfl
 c213:=by kernel_rfl
 c232:=by kernel_rfl
 c233:=by kernel_rfl}
open Go.RowKit in
theorem Tryz.strconv_toError_syntax (fn s:ByteArray) (base bits:Int) (ev:Value) (w:World) (hlim:s.size<=281474976710656) (hv:w.cell? ⟨3,0,none⟩=some ev) (hev:ev= .nilIface\/∃te pe,ev= .iface te pe):
  Calls Tryz.prog 213 #[.string fn,.string s,.int .i64 base,.int .i64 bits,.iface 348 (.int .i64 2)] w λe w'=>∃N,e= .returned (.iface 351 (.pointer (some ⟨N,0,none⟩)))/\w.heap.size<=N/\w'.heap[N]?=some (.cells #[.string fn,.string s,ev] 380 (0,0))/\Below w.heap.size w w':=Any.strconv_toError_syntax Tryz.laysC245 fn s base bits ev w hlim hv hev
def Tryz.laysC172_ren:Go.Shelf.Ren:=⟨fun | 172=>135 | 244=>212 | 245=>213 | 247=>253 | 279=>254 | 280=>255 | 281=>256 | 282=>257 | 287=>259 | 316=>282 | 171=>136 | 205=>283 | 321=>288 | 322=>289 | 243=>214 | 246=>258 | 283=>284 | 284=>285 | 285=>286 | 286=>287 | 129=>152 | 317=>300 | 318=>301 | 319=>302 | 320=>303 | 337=>311 | 338=>312 | n=>n,fun | 9=>9 | 3=>3 | 75=>250 | 76=>251 | 4=>4 | 5=>5 | 167=>348 | 37=>205 | 0=>0 | 85=>349 | 2=>2 | 168=>351 | 53=>37 | 175=>314 | 46=>186 | 210=>380 | 127=>342 | 145=>404 | 143=>402 | 21=>21 | 171=>382 | 173=>384 | 212=>406 | 51=>267 | 20=>20 | 213=>407 | 232=>152 | 233=>211 | 80=>223 | n=>n,fun | 15=>3 | 16=>4 | 17=>5 | 18=>6 | 19=>7 | n=>n⟩
theorem Tryz.laysC172:Go.Proofs.LaysC.n172 Tryz.prog Tryz.laysC172_ren:={
 mixed:=by kernel_rfl
 f129:=Tryz.func152.trans (congrArg some kqR)
 f171:=Tryz.func136.trans (congrArg some kqR)
 f172:=Tryz.func135.trans (congrArg some kqR)
 f205:=Tryz.func283.trans (congrArg some kqR)
 f243:=Tryz.func214.trans (congrArg some kqR)
 f244:=Tryz.func212.trans (congrArg some kqR)
 f245:=Tryz.func213.trans (congrArg some kqR)
 f246:=Tryz.func258.trans (congrArg some kqR)
 f247:=Tryz.func253.trans (congrArg some kqR)
 f279:=Tryz.func254.trans (congrArg some kqR)
 f280:=Tryz.func255.trans (congrArg some kqR)
 f281:=Tryz.func256.trans (congrArg some kqR)
 f282:=Tryz.func257.trans (congrArg some kqR)
 f283:=Tryz.func284.trans (congrArg some kqR)
 f284:=Tryz.func285.trans (congrArg some kqR)
 f285:=Tryz.func286.trans (congrArg some kqR)
 f286:=Tryz.func287.trans (congrArg some kqR)
 f287:=Tryz.func259.trans (congrArg some kqR)
 f316:=Tryz.func282.trans (congrArg some kqR)
 f317:=Tryz.func300.trans (congrArg some kqR)
 f318:=Tryz.func301.trans (congrArg some kqR)
 f319:=Tryz.func302.trans (congrArg some kqR)
 f320:=Tryz.func303.trans (congrArg some kqR)
 f321:=Tryz.func288.trans (congrArg some kqR)
 f322:=Tryz.func289.trans (congrArg some kqR)
 f337:=Tryz.func311.trans (congrArg some kqR)
 f338:=Tryz.func312.trans (congrArg some kqR)
 t0:=Tryz.underlying0
 a0:=Tryz.isAgg0
 z0:=Tryz.sizeOf0
 v0:=Tryz.zeroValue0
 t2:=Tryz.underlying2
 a2:=Tryz.isAgg2
 z2:=Tryz.sizeOf2
 v2:=Tryz.zeroValue2
 t3:=Tryz.underlying3
 a3:=Tryz.isAgg3
 z3:=Tryz.sizeOf3
 v3:=Tryz.zeroValue3
 t4:=Tryz.underlying4
 a4:=Tryz.isAgg4
 z4:=Tryz.sizeOf4
 v4:=Tryz.zeroValue4
 t5:=Tryz.underlying5
 a5:=Tryz.isAgg5
 z5:=Tryz.sizeOf5
 v5:=Tryz.zeroValue5
 t9:=Tryz.underlying9
 a9:=Tryz.isAgg9
 z9:=Tryz.sizeOf9
 v9:=Tryz.zeroValue9
 t20:=Tryz.underlying20
 a20:=Tryz.isAgg20
 z20:=Tryz.sizeOf20
 v20:=Tryz.zeroValue20
 t21:=Tryz.underlying21
 a21:=Tryz.isAgg21
 z21:=Tryz.sizeOf21
 v21:=Tryz.zeroValue21
 t37:=Tryz.underlying205
 a37:=Tryz.isAgg205
 z37:=Tryz.sizeOf205
 v37:=Tryz.zeroValue205
 t46:=Tryz.underlying186
 a46:=Tryz.isAgg186
 z46:=Tryz.sizeOf186
 v46:=Tryz.zeroValue186
 t51:=Tryz.underlying267
 a51:=Tryz.isAgg267
 z51:=Tryz.sizeOf267
 v51:=Tryz.zeroValue267
 t53:=Tryz.underlying37
 a53:=Tryz.isAgg37
 z53:=Tryz.sizeOf37
 v53:=Tryz.zeroValue37
 t75:=Tryz.underlying250
 a75:=Tryz.isAgg250
 z75:=Tryz.sizeOf250
 v75:=Tryz.zeroValue250
 t76:=Tryz.underlying251
 a76:=Tryz.isAgg251
 z76:=Tryz.sizeOf251
 v76:=Tryz.zeroValue251
 t85:=Tryz.underlying349
 a85:=Tryz.isAgg349
 z85:=Tryz.sizeOf349
 v85:=Tryz.zeroValue349
 t127:=Tryz.underlying342
 a127:=Tryz.isAgg342
 z127:=Tryz.sizeOf342
 v127:=Tryz.zeroValue342
 t143:=Tryz.underlying402
 a143:=Tryz.isAgg402
 z143:=Tryz.sizeOf402
 v143:=Tryz.zeroValue402
 t145:=Tryz.underlying404
 a145:=Tryz.isAgg404
 z145:=Tryz.sizeOf404
 v145:=Tryz.zeroValue404
 t167:=Tryz.underlying348
 a167:=Tryz.isAgg348
 z167:=Tryz.sizeOf348
 v167:=Tryz.zeroValue348
 t168:=Tryz.underlying351
 a168:=Tryz.isAgg351
 z168:=Tryz.sizeOf351
 v168:=Tryz.zeroValue351
 t171:=Tryz.underlying382
 a171:=Tryz.isAgg382
 z171:=Tryz.sizeOf382
 v171:=Tryz.zeroValue382
 t173:=Tryz.underlying384
 a173:=Tryz.isAgg384
 z173:=Tryz.sizeOf384
 v173:=Tryz.zeroValue384
 t175:=Tryz.underlying314
 a175:=Tryz.isAgg314
 z175:=Tryz.sizeOf314
 v175:=Tryz.zeroValue314
 t210:=Tryz.underlying380
 a210:=Tryz.isAgg380
 z210:=Tryz.sizeOf380
 v210:=Tryz.zeroValue380
 t212:=Tryz.underlying406
 a212:=Tryz.isAgg406
 z212:=Tryz.sizeOf406
 v212:=Tryz.zeroValue406
 t213:=Tryz.underlying407
 a213:=Tryz.isAgg407
 z213:=Tryz.sizeOf407
 t232:=Tryz.underlying152
 a232:=Tryz.isAgg152
 z232:=Tryz.sizeOf152
 v232:=Tryz.zeroValue152
 t233:=Tryz.underlying211
 a233:=Tryz.isAgg211
 z233:=Tryz.sizeOf211
 v233:=Tryz.zeroValue211
 g15:=by kernel_rfl
 g16:=by kernel_rfl
 g17:=by kernel_rfl
 g18:=by kernel_rfl
 g19:=by kernel_rfl
 t80:=Tryz.underlying223
 a80:=Tryz.isAgg223
 z80:=Tryz.sizeOf223
 v80:=Tryz.zeroValue223
 i0:=by kernel_rfl
 i2:=by kernel_rfl
 i3:=by kernel_rfl
 i4:=by kernel_rfl
 i5:=by kernel_rfl
 i9:=by kernel_rfl
 i20:=by kernel_rfl
 i21:=by kernel_rfl
 i37:=by kernel_rfl
 i46:=by kernel_rfl
 i51:=by kernel_rfl
 i53:=by kernel_rfl
 i75:=by kernel_rfl
 i76:=by kernel_rfl
 i80:=by kernel_rfl
 i85:=by kernel_rfl
 i127:=by kernel_rfl
 i143:=by kernel_rfl
 i145:=by kernel_rfl
 i167:=by kernel_rfl
 i168:=by kernel_rfl
 i171:=by kernel_rfl
 i173:=by kernel_rfl
 i175:=by kernel_rfl
 i210:=by kernel_rfl
 i212:=by kernel_rfl
 i232:=by kernel_rfl
 i233:=by kernel_rfl
 m15:=by kernel_rfl
 m16:=by kernel_rfl
 m17:=by kernel_rfl
 m18:=by kernel_rfl
 m19:=by kernel_rfl
 c0:=by kernel_rfl
 c2:=by kernel_rfl
 c3:=by kernel_rfl
 c4:=by kernel_rfl
 c5:=by kernel_rfl
 c9:=by kernel_rfl
 c20:=by kernel_rfl
 c21:=by kernel_rfl
 c37:=by kernel_rfl
 c46:=by kernel_rfl
 c51:=by kernel_rfl
 c53:=by kernel_rfl
 c75:=by kernel_rfl
 c76:=by kernel_rfl
 c80:=by kernel_rfl
 c85:=by kernel_rfl
 c127:=by kernel_rfl
 c143:=by kernel_rfl
 c145:=by kernel_rfl
 c167:=by kernel_rfl
 c168:=by kernel_rfl
 c171:=by kernel_rfl
 c173:=by kernel_rfl
 c175:=by kernel_rfl
 c210:=by kernel_rfl
 c212:=by kernel_rfl
 c213:=by kernel_rfl
 c232:=by kernel_rfl
 c233:=by kernel_rfl}
open Go.RowKit in
theorem Tryz.strconv_toError_range (fn s:ByteArray) (base bits:Int) (ev:Value) (w:World) (hlim:s.size<=281474976710656) (hv:w.cell? ⟨4,0,none⟩=some ev) (hev:ev= .nilIface\/∃te pe,ev= .iface te pe):
  Calls Tryz.prog 213 #[.string fn,.string s,.int .i64 base,.int .i64 bits,.iface 348 (.int .i64 1)] w λe w'=>∃N,e= .returned (.iface 351 (.pointer (some ⟨N,0,none⟩)))/\w.heap.size<=N/\w'.heap[N]?=some (.cells #[.string fn,.string s,ev] 380 (0,0))/\Below w.heap.size w w':=Any.strconv_toError_range Tryz.laysC245 fn s base bits ev w hlim hv hev
open Go.RowKit in
theorem Tryz.strconv_Atoi_ok (s:ByteArray) (hmax:s.size<=9223372036854775806) (v:Int) (h:Lib.atoiAll s.data.toList= .ok v) (w:World):
  Calls Tryz.prog 135 #[.string s] w λe w'=>e= .returned (.tuple #[.int .i64 v,.nilIface])/\(w'=w\/∃t,w'=Lib.bytesWorld w 5 t):=Any.strconv_Atoi_ok Tryz.laysC172 s hmax v h w
open Go.RowKit in
theorem Tryz.strconv_Atoi_syntax (s:ByteArray) (hlim:s.size<=281474976710656) (h:Lib.atoiAll s.data.toList=Lib.atoiAll []) (ev:Value) (w:World) (hv:w.cell? ⟨3,0,none⟩=some ev) (hev:ev= .nilIface\/∃te pe,ev= .iface te pe):
  Calls Tryz.prog 135 #[.string s] w λe w'=>∃N,e= .returned (.tuple #[.int .i64 (0),.iface 351 (.pointer (some ⟨N,0,none⟩))])/\w.heap.size<=N/\w'.heap[N]?=some (.cells #[.string ⟨#[65,116,111,105]⟩,.string s,ev] 380 (0,0))/\Below w.heap.size w w':=Any.strconv_Atoi_syntax Tryz.laysC172 s hlim h ev w hv hev
open Go.RowKit in
theorem Tryz.strconv_Atoi_range (s:ByteArray) (hlim:s.size<=281474976710656) (h:Lib.atoiAll s.data.toList= .range) (ev:Value) (w:World) (hv:w.cell? ⟨4,0,none⟩=some ev) (hev:ev= .nilIface\/∃te pe,ev= .iface te pe):
  Calls Tryz.prog 135 #[.string s] w λe w'=>∃N,e= .returned (.tuple #[.int .i64 (Lib.atoiSat s.data.toList),.iface 351 (.pointer (some ⟨N,0,none⟩))])/\w.heap.size<=N/\w'.heap[N]?=some (.cells #[.string ⟨#[65,116,111,105]⟩,.string s,ev] 380 (0,0))/\Below w.heap.size w w':=Any.strconv_Atoi_range Tryz.laysC172 s hlim h ev w hv hev
def Tryz.lays146_ren:Go.Shelf.Ren:=⟨fun | 146=>138 | 221=>134 | 268=>210 | 138=>211 | 143=>175 | 195=>251 | 197=>174 | 218=>252 | 219=>234 | 260=>233 | 217=>270 | 225=>271 | 224=>272 | 267=>273 | 266=>296 | 314=>297 | n=>n,fun | 9=>9 | 31=>182 | 3=>3 | 4=>4 | 0=>0 | 105=>284 | 21=>21 | 5=>5 | 46=>186 | 119=>369 | 139=>372 | 138=>371 | 146=>399 | 51=>267 | n=>n,fun | 1=>2 | 3=>0 | 4=>1 | n=>n⟩
theorem Tryz.lays146:Go.Proofs.Lays.n146 Tryz.prog Tryz.lays146_ren:={
 mixed:=by kernel_rfl
 f138:=Tryz.func211.trans (congrArg some kqR)
 f143:=Tryz.func175.trans (congrArg some kqR)
 f146:=Tryz.func138.trans (congrArg some kqR)
 f195:=Tryz.func251.trans (congrArg some kqR)
 f197:=Tryz.func174.trans (congrArg some kqR)
 f217:=Tryz.func270.trans (congrArg some kqR)
 f218:=Tryz.func252.trans (congrArg some kqR)
 f219:=Tryz.func234.trans (congrArg some kqR)
 f221:=Tryz.func134.trans (congrArg some kqR)
 f224:=Tryz.func272.trans (congrArg some kqR)
 f225:=Tryz.func271.trans (congrArg some kqR)
 f260:=Tryz.func233.trans (congrArg some kqR)
 f266:=Tryz.func296.trans (congrArg some kqR)
 f267:=Tryz.func273.trans (congrArg some kqR)
 f268:=Tryz.func210.trans (congrArg some kqR)
 f314:=Tryz.func297.trans (congrArg some kqR)
 t0:=Tryz.underlying0
 a0:=Tryz.isAgg0
 z0:=Tryz.sizeOf0
 v0:=Tryz.zeroValue0
 t3:=Tryz.underlying3
 a3:=Tryz.isAgg3
 z3:=Tryz.sizeOf3
 v3:=Tryz.zeroValue3
 t4:=Tryz.underlying4
 a4:=Tryz.isAgg4
 z4:=Tryz.sizeOf4
 v4:=Tryz.zeroValue4
 t5:=Tryz.underlying5
 a5:=Tryz.isAgg5
 z5:=Tryz.sizeOf5
 v5:=Tryz.zeroValue5
 t9:=Tryz.underlying9
 a9:=Tryz.isAgg9
 z9:=Tryz.sizeOf9
 v9:=Tryz.zeroValue9
 t21:=Tryz.underlying21
 a21:=Tryz.isAgg21
 z21:=Tryz.sizeOf21
 v21:=Tryz.zeroValue21
 t31:=Tryz.underlying182
 a31:=Tryz.isAgg182
 z31:=Tryz.sizeOf182
 v31:=Tryz.zeroValue182
 t46:=Tryz.underlying186
 a46:=Tryz.isAgg186
 z46:=Tryz.sizeOf186
 v46:=Tryz.zeroValue186
 t51:=Tryz.underlying267
 a51:=Tryz.isAgg267
 z51:=Tryz.sizeOf267
 v51:=Tryz.zeroValue267
 t105:=Tryz.underlying284
 a105:=Tryz.isAgg284
 z105:=Tryz.sizeOf284
 v105:=Tryz.zeroValue284
 t119:=Tryz.underlying369
 a119:=Tryz.isAgg369
 z119:=Tryz.sizeOf369
 t138:=Tryz.underlying371
 a138:=Tryz.isAgg371
 z138:=Tryz.sizeOf371
 v138:=Tryz.zeroValue371
 t139:=Tryz.underlying372
 a139:=Tryz.isAgg372
 z139:=Tryz.sizeOf372
 v139:=Tryz.zeroValue372
 t146:=Tryz.underlying399
 a146:=Tryz.isAgg399
 z146:=Tryz.sizeOf399
 v146:=Tryz.zeroValue399
 g1:=by kernel_rfl
 g3:=by kernel_rfl
 g4:=by kernel_rfl}
open Go.RowKit Go.Lib in
theorem Tryz.strings_Split (s sep:ByteArray) (m:Int) (w:World) (hs:s.size < 4294967281) (hm:w.cell? ⟨2,0,none⟩=some (.int .i64 m)) (h1:1<=sep.size):
  Calls Tryz.prog 138 #[.string s,.string sep] w λe w'=>
   e= .returned (.slice (some ⟨w.heap.size,0,none⟩) (Lib.countB s sep+1) (Lib.countB s sep+1))/\w'=w.alloc (.cells ((Lib.splitB sep 0 (Lib.countB s sep) s).map Value.string).toArray 9):=Any.strings_Split Tryz.lays146 kqR s sep m w hs hm h1
def Tryz.lays147_ren:Go.Shelf.Ren:=⟨fun | 147=>81 | 221=>134 | 268=>210 | 138=>211 | 143=>175 | 195=>251 | 197=>174 | 218=>252 | 219=>234 | 260=>233 | 217=>270 | 225=>271 | 224=>272 | 267=>273 | 266=>296 | 314=>297 | n=>n,fun | 9=>9 | 3=>3 | 31=>182 | 4=>4 | 0=>0 | 105=>284 | 21=>21 | 5=>5 | 46=>186 | 119=>369 | 139=>372 | 138=>371 | 146=>399 | 51=>267 | n=>n,fun | 1=>2 | 3=>0 | 4=>1 | n=>n⟩
theorem Tryz.lays147:Go.Proofs.Lays.n147 Tryz.prog Tryz.lays147_ren:={
 mixed:=by kernel_rfl
 f138:=Tryz.func211.trans (congrArg some kqR)
 f143:=Tryz.func175.trans (congrArg some kqR)
 f147:=Tryz.func81.trans (congrArg some kqR)
 f195:=Tryz.func251.trans (congrArg some kqR)
 f197:=Tryz.func174.trans (congrArg some kqR)
 f217:=Tryz.func270.trans (congrArg some kqR)
 f218:=Tryz.func252.trans (congrArg some kqR)
 f219:=Tryz.func234.trans (congrArg some kqR)
 f221:=Tryz.func134.trans (congrArg some kqR)
 f224:=Tryz.func272.trans (congrArg some kqR)
 f225:=Tryz.func271.trans (congrArg some kqR)
 f260:=Tryz.func233.trans (congrArg some kqR)
 f266:=Tryz.func296.trans (congrArg some kqR)
 f267:=Tryz.func273.trans (congrArg some kqR)
 f268:=Tryz.func210.trans (congrArg some kqR)
 f314:=Tryz.func297.trans (congrArg some kqR)
 t0:=Tryz.underlying0
 a0:=Tryz.isAgg0
 z0:=Tryz.sizeOf0
 v0:=Tryz.zeroValue0
 t3:=Tryz.underlying3
 a3:=Tryz.isAgg3
 z3:=Tryz.sizeOf3
 v3:=Tryz.zeroValue3
 t4:=Tryz.underlying4
 a4:=Tryz.isAgg4
 z4:=Tryz.sizeOf4
 v4:=Tryz.zeroValue4
 t5:=Tryz.underlying5
 a5:=Tryz.isAgg5
 z5:=Tryz.sizeOf5
 v5:=Tryz.zeroValue5
 t9:=Tryz.underlying9
 a9:=Tryz.isAgg9
 z9:=Tryz.sizeOf9
 v9:=Tryz.zeroValue9
 t21:=Tryz.underlying21
 a21:=Tryz.isAgg21
 z21:=Tryz.sizeOf21
 v21:=Tryz.zeroValue21
 t31:=Tryz.underlying182
 a31:=Tryz.isAgg182
 z31:=Tryz.sizeOf182
 v31:=Tryz.zeroValue182
 t46:=Tryz.underlying186
 a46:=Tryz.isAgg186
 z46:=Tryz.sizeOf186
 v46:=Tryz.zeroValue186
 t51:=Tryz.underlying267
 a51:=Tryz.isAgg267
 z51:=Tryz.sizeOf267
 v51:=Tryz.zeroValue267
 t105:=Tryz.underlying284
 a105:=Tryz.isAgg284
 z105:=Tryz.sizeOf284
 v105:=Tryz.zeroValue284
 t119:=Tryz.underlying369
 a119:=Tryz.isAgg369
 z119:=Tryz.sizeOf369
 t138:=Tryz.underlying371
 a138:=Tryz.isAgg371
 z138:=Tryz.sizeOf371
 v138:=Tryz.zeroValue371
 t139:=Tryz.underlying372
 a139:=Tryz.isAgg372
 z139:=Tryz.sizeOf372
 v139:=Tryz.zeroValue372
 t146:=Tryz.underlying399
 a146:=Tryz.isAgg399
 z146:=Tryz.sizeOf399
 v146:=Tryz.zeroValue399
 g1:=by kernel_rfl
 g3:=by kernel_rfl
 g4:=by kernel_rfl}
open Go.RowKit Go.Lib in
theorem Tryz.strings_SplitN (s sep:ByteArray) (n:Nat) (m:Int) (w:World) (hs:s.size < 4294967281) (hm:w.cell? ⟨2,0,none⟩=some (.int .i64 m)) (h1:1<=sep.size) (hn:1<=n) (hn63:n<=9223372036854775807):
  Calls Tryz.prog 81 #[.string s,.string sep,.int .i64 n] w λe w'=>
   e= .returned (.slice (some ⟨w.heap.size,0,none⟩) (Lib.splitB sep 0 (min n (s.size+1) - 1) s).length (min n (s.size+1)))/\w'=w.alloc (.cells (Lib.cellsOf (Lib.splitB sep 0 (min n (s.size+1) - 1) s) (min n (s.size+1))) 9):=Any.strings_SplitN Tryz.lays147 kqR s sep n m w hs hm h1 hn hn63
end Go.Proofs
