import Derived.Test.YtippohicjhilnaaGreatDoorZ3Tn
import Derived.Shelf.Strings.Builder1
import Derived.Shelf.Strings.Builder2
import Derived.Shelf.Strings.OnBuilder
import Derived.Shelf.Small.Strs
import Derived.Shelf.LaysM
import Derived.Shelf.Strconv.Itoa3
import Derived.Shelf.Strings.Split
import Derived.Shelf.Strings.FieldsFuncAny
import Derived.Shelf.Slices.Turned
import Derived.Shelf.Strings.Shaped
import Derived.Test.YtippohicjhilnaaGreatDoorProg
set_option linter.unusedSimpArgs false
set_option linter.unusedVariables false
set_option maxRecDepth 100000
set_option maxHeartbeats 2000000
open Go.Proofs.Tryz
namespace Go.Proofs
open Go.Shelf
def Tryz.lays169_ren:Go.Shelf.Ren:=⟨fun|169=>58|n=>n,fun|70=>104|9=>9|0=>0|72=>107|37=>105|127=>156|3=>3|5=>5|n=>n,fun|n=>n⟩
theorem Tryz.lays169:Go.Proofs.Lays.n169 prog Tryz.lays169_ren := {
 mixed:=by kernel_rfl
 f169:=func58.trans (congrArg some (by kernel_rfl))
 t0:=underlying0
 a0:=Tryz.isAgg0
 z0:=Tryz.sizeOf0
 v0:=Tryz.zeroValue0
 t3:=underlying3
 a3:=Tryz.isAgg3
 z3:=Tryz.sizeOf3
 v3:=Tryz.zeroValue3
 t9:=underlying9
 a9:=Tryz.isAgg9
 z9:=Tryz.sizeOf9
 v9:=Tryz.zeroValue9
 t37:=underlying105
 a37:=Tryz.isAgg105
 z37:=Tryz.sizeOf105
 v37:=Tryz.zeroValue105
 t70:=underlying104
 a70:=Tryz.isAgg104
 z70:=Tryz.sizeOf104
 v70:=Tryz.zeroValue104
 t72:=underlying107
 a72:=Tryz.isAgg107
 z72:=Tryz.sizeOf107
 v72:=Tryz.zeroValue107
 t127:=underlying156
 a127:=Tryz.isAgg156
 z127:=Tryz.sizeOf156
 v127:=Tryz.zeroValue156 }
theorem Tryz.aC1:Builder.Extra prog Tryz.lays169_ren := {
 sizeBuilder:=by kernel_rfl
 liesBuilder:=by kernel_rfl
 t5:=underlying5
 a5:=Tryz.isAgg5
 z5:=Tryz.sizeOf5
 v5:=Tryz.zeroValue5
 infoByte:=by kernel_rfl
 cellsByte:=by kernel_rfl
 sizeByte:=by kernel_rfl
 neB5:=by decide }
open Go.RowKit in
theorem Tryz.Builder_String_any (B b:Nat) (l:List UInt8) (w:World) (h:Lib.IsBuilder 107 5 B b (Lib.byteCells l) w) (hBw:B<=w.heap.size) :
  Calls prog 58 #[.pointer (some ⟨b,0,none⟩)] w λe w'=>e = .returned (.string ⟨l.toArray⟩)/\Below B w w':=Any.Builder_String_any Tryz.lays169 Tryz.aC1 B b l w h hBw
def Tryz.lays156_ren:Go.Shelf.Ren:=⟨fun|156=>261|165=>285|166=>56|169=>58|240=>85|241=>297|276=>140|277=>298|n=>n,fun|31=>151|9=>9|3=>3|4=>4|0=>0|20=>20|72=>107|76=>113|70=>104|37=>105|75=>112|127=>156|164=>213|5=>5|80=>116|n=>n,fun|n=>n⟩
theorem Tryz.lays156:Go.Proofs.Lays.n156 prog Tryz.lays156_ren := {
 mixed:=by kernel_rfl
 f156:=func261.trans (congrArg some (by kernel_rfl))
 f165:=func285.trans (congrArg some (by kernel_rfl))
 f166:=func56.trans (congrArg some (by kernel_rfl))
 f169:=func58.trans (congrArg some (by kernel_rfl))
 f240:=func85.trans (congrArg some (by kernel_rfl))
 f241:=func297.trans (congrArg some (by kernel_rfl))
 f276:=func140.trans (congrArg some (by kernel_rfl))
 f277:=func298.trans (congrArg some (by kernel_rfl))
 t0:=underlying0
 a0:=Tryz.isAgg0
 z0:=Tryz.sizeOf0
 v0:=Tryz.zeroValue0
 t3:=underlying3
 a3:=Tryz.isAgg3
 z3:=Tryz.sizeOf3
 v3:=Tryz.zeroValue3
 t4:=underlying4
 a4:=Tryz.isAgg4
 z4:=Tryz.sizeOf4
 v4:=Tryz.zeroValue4
 t9:=underlying9
 a9:=Tryz.isAgg9
 z9:=Tryz.sizeOf9
 v9:=Tryz.zeroValue9
 t20:=underlying20
 a20:=Tryz.isAgg20
 z20:=Tryz.sizeOf20
 v20:=Tryz.zeroValue20
 t31:=underlying151
 a31:=Tryz.isAgg151
 z31:=Tryz.sizeOf151
 v31:=Tryz.zeroValue151
 t37:=underlying105
 a37:=Tryz.isAgg105
 z37:=Tryz.sizeOf105
 v37:=Tryz.zeroValue105
 t70:=underlying104
 a70:=Tryz.isAgg104
 z70:=Tryz.sizeOf104
 v70:=Tryz.zeroValue104
 t72:=underlying107
 a72:=Tryz.isAgg107
 z72:=Tryz.sizeOf107
 v72:=Tryz.zeroValue107
 t75:=underlying112
 a75:=Tryz.isAgg112
 z75:=Tryz.sizeOf112
 v75:=Tryz.zeroValue112
 t76:=underlying113
 a76:=Tryz.isAgg113
 z76:=Tryz.sizeOf113
 v76:=Tryz.zeroValue113
 t127:=underlying156
 a127:=Tryz.isAgg156
 z127:=Tryz.sizeOf156
 v127:=Tryz.zeroValue156
 t164:=underlying213
 a164:=Tryz.isAgg213
 z164:=Tryz.sizeOf213
 v164:=Tryz.zeroValue213 }
theorem Tryz.aCw:Builder.Extra prog Tryz.lays156_ren := {
 sizeBuilder:=by kernel_rfl
 liesBuilder:=by kernel_rfl
 t5:=underlying5
 a5:=Tryz.isAgg5
 z5:=Tryz.sizeOf5
 v5:=Tryz.zeroValue5
 infoByte:=by kernel_rfl
 cellsByte:=by kernel_rfl
 sizeByte:=by kernel_rfl
 neB5:=by decide }
open Go.RowKit in
open Go.RowKit in
theorem Tryz.strings_Join (bk o c:Nat) (xs:List ByteArray) (sep:ByteArray) (w:World) (hcells:∀ (j:Nat) x,xs[j]? = some x->w.cell? ⟨bk,o+j,none⟩=some (.string x)) (hbk:bk<w.heap.size) (hN:xs.length<=140737488355328) (hcap:xs.length<=c) (hlen:(Lib.join (xs.map (·.data.toList)) sep.data.toList).length<=140737488355328) :
  Calls prog 261 #[.slice (some ⟨bk,o,none⟩) xs.length c,.string sep] w λe w'=>e = .returned (.string ⟨(Lib.join (xs.map (·.data.toList)) sep.data.toList).toArray⟩)/\Below w.heap.size w w':=Any.strings_Join Tryz.lays156 Tryz.aCw bk o c xs sep w hcells hbk hN hcap hlen
def Tryz.lays137_ren:Go.Shelf.Ren:=⟨fun|137=>257|217=>280|266=>295|n=>n,fun|9=>9|5=>5|3=>3|n=>n,fun|n=>n⟩
theorem Tryz.lays137:Go.Proofs.Lays.n137 prog Tryz.lays137_ren := {
 mixed:=by kernel_rfl
 f137:=func257.trans (congrArg some (by kernel_rfl))
 f217:=func280.trans (congrArg some (by kernel_rfl))
 f266:=func295.trans (congrArg some (by kernel_rfl))
 t3:=underlying3
 a3:=Tryz.isAgg3
 z3:=Tryz.sizeOf3
 v3:=Tryz.zeroValue3
 t5:=underlying5
 a5:=Tryz.isAgg5
 z5:=Tryz.sizeOf5
 v5:=Tryz.zeroValue5
 t9:=underlying9
 a9:=Tryz.isAgg9
 z9:=Tryz.sizeOf9
 v9:=Tryz.zeroValue9 }
open Go.RowKit in
theorem Tryz.strings_IndexByte (s:ByteArray) (c:Int) (w:World) :
  Calls prog 257 #[.string s,.int .u8 c] w λe w'=>e = .returned (.int .i64 (Lib.indexByte s.data.toList c.toNat.toUInt8))/\w'=w:=Any.strings_IndexByte Tryz.lays137 s c w
def Tryz.laysM171_ren:Go.Shelf.Ren:=⟨fun|171=>57|243=>86|246=>141|283=>212|284=>213|285=>214|286=>215|129=>263|317=>262|318=>264|319=>265|320=>266|337=>286|338=>287|n=>n,fun|3=>3|9=>9|2=>2|4=>4|171=>285|0=>0|53=>23|37=>105|5=>5|173=>288|212=>337|51=>117|20=>20|213=>338|46=>118|232=>365|233=>366|n=>n,fun|17=>2|18=>7|19=>8|n=>n⟩
theorem Tryz.laysM171:Go.Proofs.LaysM.n171 prog Tryz.laysM171_ren := {
 mixed:=by kernel_rfl
 f129:=func263.trans (congrArg some (by kernel_rfl))
 f171:=func57.trans (congrArg some (by kernel_rfl))
 f243:=func86.trans (congrArg some (by kernel_rfl))
 f246:=func141.trans (congrArg some (by kernel_rfl))
 f283:=func212.trans (congrArg some (by kernel_rfl))
 f284:=func213.trans (congrArg some (by kernel_rfl))
 f285:=func214.trans (congrArg some (by kernel_rfl))
 f286:=func215.trans (congrArg some (by kernel_rfl))
 f317:=func262.trans (congrArg some (by kernel_rfl))
 f318:=func264.trans (congrArg some (by kernel_rfl))
 f319:=func265.trans (congrArg some (by kernel_rfl))
 f320:=func266.trans (congrArg some (by kernel_rfl))
 f337:=func286.trans (congrArg some (by kernel_rfl))
 f338:=func287.trans (congrArg some (by kernel_rfl))
 t0:=underlying0
 a0:=Tryz.isAgg0
 z0:=Tryz.sizeOf0
 v0:=Tryz.zeroValue0
 t2:=underlying2
 a2:=Tryz.isAgg2
 z2:=Tryz.sizeOf2
 v2:=Tryz.zeroValue2
 t3:=underlying3
 a3:=Tryz.isAgg3
 z3:=Tryz.sizeOf3
 v3:=Tryz.zeroValue3
 t4:=underlying4
 a4:=Tryz.isAgg4
 z4:=Tryz.sizeOf4
 v4:=Tryz.zeroValue4
 t5:=underlying5
 a5:=Tryz.isAgg5
 z5:=Tryz.sizeOf5
 v5:=Tryz.zeroValue5
 t9:=underlying9
 a9:=Tryz.isAgg9
 z9:=Tryz.sizeOf9
 v9:=Tryz.zeroValue9
 t20:=underlying20
 a20:=Tryz.isAgg20
 z20:=Tryz.sizeOf20
 v20:=Tryz.zeroValue20
 t37:=underlying105
 a37:=Tryz.isAgg105
 z37:=Tryz.sizeOf105
 v37:=Tryz.zeroValue105
 t46:=underlying118
 a46:=Tryz.isAgg118
 z46:=Tryz.sizeOf118
 v46:=Tryz.zeroValue118
 t51:=underlying117
 a51:=Tryz.isAgg117
 z51:=Tryz.sizeOf117
 v51:=Tryz.zeroValue117
 t53:=underlying23
 a53:=Tryz.isAgg23
 z53:=Tryz.sizeOf23
 v53:=Tryz.zeroValue23
 t171:=underlying285
 a171:=Tryz.isAgg285
 z171:=Tryz.sizeOf285
 v171:=Tryz.zeroValue285
 t173:=underlying288
 a173:=Tryz.isAgg288
 z173:=Tryz.sizeOf288
 v173:=Tryz.zeroValue288
 t212:=underlying337
 a212:=Tryz.isAgg337
 z212:=Tryz.sizeOf337
 v212:=Tryz.zeroValue337
 t213:=underlying338
 a213:=Tryz.isAgg338
 z213:=Tryz.sizeOf338
 t232:=underlying365
 a232:=Tryz.isAgg365
 z232:=Tryz.sizeOf365
 v232:=Tryz.zeroValue365
 t233:=underlying366
 a233:=Tryz.isAgg366
 z233:=Tryz.sizeOf366
 v233:=Tryz.zeroValue366
 g17:=by kernel_rfl
 g18:=by kernel_rfl
 g19:=by kernel_rfl
 i0:=by kernel_rfl
 i2:=by kernel_rfl
 i3:=by kernel_rfl
 i4:=by kernel_rfl
 i5:=by kernel_rfl
 i9:=by kernel_rfl
 i20:=by kernel_rfl
 i37:=by kernel_rfl
 i46:=by kernel_rfl
 i51:=by kernel_rfl
 i53:=by kernel_rfl
 i171:=by kernel_rfl
 i173:=by kernel_rfl
 i212:=by kernel_rfl
 i232:=by kernel_rfl
 i233:=by kernel_rfl
 m17:=by kernel_rfl
 m18:=by kernel_rfl
 m19:=by kernel_rfl }
open Go.RowKit Go.Sort Go.Lib in
theorem Tryz.strconv_Itoa (n:Int) (h0 : -9223372036854775808<=n) (h1:n<=9223372036854775807) (w:World) (htab:Lib.TabIs prog w "internal/strconv.uint64pow10" .u64 Lib.pow10Tab) :
  Calls prog 57 #[.int .i64 n] w λe w'=>e = .returned (.string ⟨(Lib.itoa n).toArray⟩)/\∃ k os,w'=grow (w.drewN k) os:=Any.strconv_Itoa Tryz.laysM171 n h0 h1 w htab
def Tryz.laysM219_ren:Go.Shelf.Ren:=⟨fun|219=>252|217=>280|225=>281|224=>282|267=>283|266=>295|314=>296|n=>n,fun|9=>9|3=>3|4=>4|5=>5|46=>118|146=>363|51=>117|n=>n,fun|1=>3|n=>n⟩
theorem Tryz.laysM219:Go.Proofs.LaysM.n219 prog Tryz.laysM219_ren := {
 mixed:=by kernel_rfl
 f217:=func280.trans (congrArg some (by kernel_rfl))
 f219:=func252.trans (congrArg some (by kernel_rfl))
 f224:=func282.trans (congrArg some (by kernel_rfl))
 f225:=func281.trans (congrArg some (by kernel_rfl))
 f266:=func295.trans (congrArg some (by kernel_rfl))
 f267:=func283.trans (congrArg some (by kernel_rfl))
 f314:=func296.trans (congrArg some (by kernel_rfl))
 t3:=underlying3
 a3:=Tryz.isAgg3
 z3:=Tryz.sizeOf3
 v3:=Tryz.zeroValue3
 t4:=underlying4
 a4:=Tryz.isAgg4
 z4:=Tryz.sizeOf4
 v4:=Tryz.zeroValue4
 t5:=underlying5
 a5:=Tryz.isAgg5
 z5:=Tryz.sizeOf5
 v5:=Tryz.zeroValue5
 t9:=underlying9
 a9:=Tryz.isAgg9
 z9:=Tryz.sizeOf9
 v9:=Tryz.zeroValue9
 t46:=underlying118
 a46:=Tryz.isAgg118
 z46:=Tryz.sizeOf118
 v46:=Tryz.zeroValue118
 t51:=underlying117
 a51:=Tryz.isAgg117
 z51:=Tryz.sizeOf117
 v51:=Tryz.zeroValue117
 t146:=underlying363
 a146:=Tryz.isAgg363
 z146:=Tryz.sizeOf363
 v146:=Tryz.zeroValue363
 g1:=by kernel_rfl
 i3:=by kernel_rfl
 i4:=by kernel_rfl
 i5:=by kernel_rfl
 i9:=by kernel_rfl
 i46:=by kernel_rfl
 i51:=by kernel_rfl
 i146:=by kernel_rfl
 m1:=by kernel_rfl
 s1_3:=λw h=>Go.Proofs.cell_of_shapedOpen_int (zero:=#[.int .i64 0]) (t:=3) h (of_decide_eq_true (by kernel_rfl)) (by kernel_rfl) rfl (by kernel_rfl) (by kernel_rfl) underlying3 }
def Tryz.lays146_ren:Go.Shelf.Ren:=⟨fun|146=>82|221=>136|268=>191|138=>192|143=>193|195=>249|197=>250|218=>251|219=>252|260=>279|217=>280|225=>281|224=>282|267=>283|266=>295|314=>296|n=>n,fun|9=>9|31=>151|3=>3|4=>4|0=>0|105=>327|21=>21|5=>5|46=>118|119=>359|139=>362|138=>361|146=>363|51=>117|n=>n,fun|1=>3|3=>5|4=>6|n=>n⟩
theorem Tryz.lays146:Go.Proofs.Lays.n146 prog Tryz.lays146_ren := {
 mixed:=by kernel_rfl
 f138:=func192.trans (congrArg some (by kernel_rfl))
 f143:=func193.trans (congrArg some (by kernel_rfl))
 f146:=func82.trans (congrArg some (by kernel_rfl))
 f195:=func249.trans (congrArg some (by kernel_rfl))
 f197:=func250.trans (congrArg some (by kernel_rfl))
 f217:=func280.trans (congrArg some (by kernel_rfl))
 f218:=func251.trans (congrArg some (by kernel_rfl))
 f219:=func252.trans (congrArg some (by kernel_rfl))
 f221:=func136.trans (congrArg some (by kernel_rfl))
 f224:=func282.trans (congrArg some (by kernel_rfl))
 f225:=func281.trans (congrArg some (by kernel_rfl))
 f260:=func279.trans (congrArg some (by kernel_rfl))
 f266:=func295.trans (congrArg some (by kernel_rfl))
 f267:=func283.trans (congrArg some (by kernel_rfl))
 f268:=func191.trans (congrArg some (by kernel_rfl))
 f314:=func296.trans (congrArg some (by kernel_rfl))
 t0:=underlying0
 a0:=Tryz.isAgg0
 z0:=Tryz.sizeOf0
 v0:=Tryz.zeroValue0
 t3:=underlying3
 a3:=Tryz.isAgg3
 z3:=Tryz.sizeOf3
 v3:=Tryz.zeroValue3
 t4:=underlying4
 a4:=Tryz.isAgg4
 z4:=Tryz.sizeOf4
 v4:=Tryz.zeroValue4
 t5:=underlying5
 a5:=Tryz.isAgg5
 z5:=Tryz.sizeOf5
 v5:=Tryz.zeroValue5
 t9:=underlying9
 a9:=Tryz.isAgg9
 z9:=Tryz.sizeOf9
 v9:=Tryz.zeroValue9
 t21:=underlying21
 a21:=Tryz.isAgg21
 z21:=Tryz.sizeOf21
 v21:=Tryz.zeroValue21
 t31:=underlying151
 a31:=Tryz.isAgg151
 z31:=Tryz.sizeOf151
 v31:=Tryz.zeroValue151
 t46:=underlying118
 a46:=Tryz.isAgg118
 z46:=Tryz.sizeOf118
 v46:=Tryz.zeroValue118
 t51:=underlying117
 a51:=Tryz.isAgg117
 z51:=Tryz.sizeOf117
 v51:=Tryz.zeroValue117
 t105:=underlying327
 a105:=Tryz.isAgg327
 z105:=Tryz.sizeOf327
 v105:=Tryz.zeroValue327
 t119:=underlying359
 a119:=Tryz.isAgg359
 z119:=Tryz.sizeOf359
 t138:=underlying361
 a138:=Tryz.isAgg361
 z138:=Tryz.sizeOf361
 v138:=Tryz.zeroValue361
 t139:=underlying362
 a139:=Tryz.isAgg362
 z139:=Tryz.sizeOf362
 v139:=Tryz.zeroValue362
 t146:=underlying363
 a146:=Tryz.isAgg363
 z146:=Tryz.sizeOf363
 v146:=Tryz.zeroValue363
 g1:=by kernel_rfl
 g3:=by kernel_rfl
 g4:=by kernel_rfl }
open Go.RowKit Go.Lib in
theorem Tryz.strings_Split (s sep:ByteArray) (m:Int) (w:World) (hs:s.size<4294967281) (hm:w.cell? ⟨3,0,none⟩=some (.int .i64 m)) (h1:1<=sep.size) :
  Calls prog 82 #[.string s,.string sep] w λe w' =>
   e = .returned (.slice (some ⟨w.heap.size,0,none⟩) (Lib.countB s sep+1) (Lib.countB s sep+1))/\w'=w.alloc (.cells ((Lib.splitB sep 0 (Lib.countB s sep) s).map Value.string).toArray 9):=Any.strings_Split Tryz.lays146 (by kernel_rfl) s sep m w hs hm h1
def Tryz.lays229_ren:Go.Shelf.Ren:=⟨fun|229=>83|n=>n,fun|9=>9|40=>150|31=>151|152=>201|3=>3|0=>0|4=>4|21=>21|154=>203|n=>n,fun|n=>n⟩
theorem Tryz.lays229:Go.Proofs.Lays.n229 prog Tryz.lays229_ren := {
 mixed:=by kernel_rfl
 f229:=func83.trans (congrArg some (by kernel_rfl))
 t0:=underlying0
 a0:=Tryz.isAgg0
 z0:=Tryz.sizeOf0
 v0:=Tryz.zeroValue0
 t3:=underlying3
 a3:=Tryz.isAgg3
 z3:=Tryz.sizeOf3
 v3:=Tryz.zeroValue3
 t4:=underlying4
 a4:=Tryz.isAgg4
 z4:=Tryz.sizeOf4
 v4:=Tryz.zeroValue4
 t9:=underlying9
 a9:=Tryz.isAgg9
 z9:=Tryz.sizeOf9
 v9:=Tryz.zeroValue9
 t21:=underlying21
 a21:=Tryz.isAgg21
 z21:=Tryz.sizeOf21
 v21:=Tryz.zeroValue21
 t31:=underlying151
 a31:=Tryz.isAgg151
 z31:=Tryz.sizeOf151
 v31:=Tryz.zeroValue151
 t40:=underlying150
 a40:=Tryz.isAgg150
 z40:=Tryz.sizeOf150
 v40:=Tryz.zeroValue150
 t152:=underlying201
 a152:=Tryz.isAgg201
 z152:=Tryz.sizeOf201
 v152:=Tryz.zeroValue201
 t154:=underlying203
 a154:=Tryz.isAgg203
 z154:=Tryz.sizeOf203
 v154:=Tryz.zeroValue203 }
open Go.RowKit Go.Lib in
theorem Tryz.strings_FieldsFunc_runes (g:Nat) (lb:Array Value) (eg:∀ args w,(callFunc g args).run prog w = .ok (.enter g args) w) (p:Nat->Bool) (s:ByteArray) (w:World) (hs:s.size<=4294967296) (hp:PredAtRunes prog g lb p w) :
  Calls prog 83 #[.string s,.func (.func g) #[] lb] w λe w'=>∃ A,e = .returned (.slice (some ⟨A,0,none⟩) (Lib.goFieldsP p s).length (Lib.goFieldsP p s).length)/\w.heap.size<=A /\
   w'.ownsRow w.heap.size 9 1 (.slice (some ⟨A,0,none⟩) (Lib.goFieldsP p s).length (Lib.goFieldsP p s).length) (Lib.goFieldsP p s).length ((Lib.goFieldsP p s).map Value.string)/\Below w.heap.size w w':=Any.strings_FieldsFunc_runes Tryz.lays229 g lb eg p s w hs hp (by kernel_rfl) (by kernel_rfl)
def Tryz.lays109_ren:Go.Shelf.Ren:=⟨fun|109=>258|n=>n,fun|31=>151|9=>9|3=>3|0=>0|4=>4|n=>n,fun|n=>n⟩
theorem Tryz.lays109:Go.Proofs.Lays.n109 prog Tryz.lays109_ren := {
 mixed:=by kernel_rfl
 f109:=func258.trans (congrArg some (by kernel_rfl))
 t0:=underlying0
 a0:=Tryz.isAgg0
 z0:=Tryz.sizeOf0
 v0:=Tryz.zeroValue0
 t3:=underlying3
 a3:=Tryz.isAgg3
 z3:=Tryz.sizeOf3
 v3:=Tryz.zeroValue3
 t4:=underlying4
 a4:=Tryz.isAgg4
 z4:=Tryz.sizeOf4
 v4:=Tryz.zeroValue4
 t9:=underlying9
 a9:=Tryz.isAgg9
 z9:=Tryz.sizeOf9
 v9:=Tryz.zeroValue9
 t31:=underlying151
 a31:=Tryz.isAgg151
 z31:=Tryz.sizeOf151
 v31:=Tryz.zeroValue151 }
open Go.Lib in
theorem Tryz.slices_Index_string (b off n c:Nat) (zs:List ByteArray) (x:ByteArray) (w:World) (hz:n<=zs.length) (hbig:n<=9223372036854775807) (hc:∀ j,j<zs.length->w.cell? ⟨b,off+j,none⟩=some (.string (zs.getD j ByteArray.empty))) :
  Calls prog 258 #[.slice (some ⟨b,off,none⟩) n c,.string x] w λe w'=>e = .returned (.int .i64 (Lib.idxOfS (zs.take n) x))/\w'=w:=Any.slices_Index_string Tryz.lays109 b off n c zs x w hz hbig hc
open Go.Lib in
theorem Tryz.lays166:Go.Proofs.Lays.n166 prog Tryz.lays156_ren := {
 mixed:=Tryz.lays156.mixed
 f166:=Tryz.lays156.f166
 f240:=Tryz.lays156.f240
 f276:=Tryz.lays156.f276
 t0:=Tryz.lays156.t0
 a0:=Tryz.lays156.a0
 z0:=Tryz.lays156.z0
 v0:=Tryz.lays156.v0
 t3:=Tryz.lays156.t3
 a3:=Tryz.lays156.a3
 z3:=Tryz.lays156.z3
 v3:=Tryz.lays156.v3
 t4:=Tryz.lays156.t4
 a4:=Tryz.lays156.a4
 z4:=Tryz.lays156.z4
 v4:=Tryz.lays156.v4
 t9:=Tryz.lays156.t9
 a9:=Tryz.lays156.a9
 z9:=Tryz.lays156.z9
 v9:=Tryz.lays156.v9
 t20:=Tryz.lays156.t20
 a20:=Tryz.lays156.a20
 z20:=Tryz.lays156.z20
 v20:=Tryz.lays156.v20
 t37:=Tryz.lays156.t37
 a37:=Tryz.lays156.a37
 z37:=Tryz.lays156.z37
 v37:=Tryz.lays156.v37
 t70:=Tryz.lays156.t70
 a70:=Tryz.lays156.a70
 z70:=Tryz.lays156.z70
 v70:=Tryz.lays156.v70
 t72:=Tryz.lays156.t72
 a72:=Tryz.lays156.a72
 z72:=Tryz.lays156.z72
 v72:=Tryz.lays156.v72
 t75:=Tryz.lays156.t75
 a75:=Tryz.lays156.a75
 z75:=Tryz.lays156.z75
 v75:=Tryz.lays156.v75
 t164:=Tryz.lays156.t164
 a164:=Tryz.lays156.a164
 z164:=Tryz.lays156.z164
 v164:=Tryz.lays156.v164 }
open Go.RowKit in
theorem Tryz.Builder_WriteString (B b:Nat) (bs:List Value) (s:ByteArray) (w:World) (h:Lib.IsBuilder 107 5 B b bs w) (hlen:bs.length+s.size<=140737488355328) (hBw:B<=w.heap.size) :
  Calls prog 56 #[.pointer (some ⟨b,0,none⟩),.string s] w λe w'=>e = .returned (.tuple #[.int .i64 s.size,.nilIface])/\(Lib.BuilderAt 107 5 B b (.pointer (some ⟨b,0,none⟩)) (bs++Lib.strCells s) w'/\Below B w w'):=Any.Builder_WriteString Tryz.lays166 Tryz.aCw B b bs s w h hlen hBw
end Go.Proofs
namespace Go.Proofs.YtippohicjhilnaaGreatDoor.JN
open Go.RowKit Go.Shelf FlagM
attribute [local go_sem] Oper.semAt_some
theorem aCc:(prog.info? 9).map (λi=>(i.zero,i.size,i.bytes))=some (some (.string ⟨#[]⟩),1,16):=by kernel_rfl
def nm:Nat->List UInt8
 | 0=>[105,110,118,97,108,105,100]|1=>[100,105,118,122,101,114,111]|2=>[111,118,101,114,102,108,111,119]
 | 3=>[117,110,100,101,114,102,108,111,119]|4=>[105,110,101,120,97,99,116]|_=>[]
abbrev nmV (x:Fin 5):Value:=.string ⟨(nm x.1).toArray⟩
theorem aDW (F:Fence) (n:Nat) (h3:F.fn 260) (h4:F.fn 190) (h5:F.fn 248) (hro:F.round=none) (hn:3<=n) (s:Int) (w:World) (hg:∀ j,j<5->w.cell? ⟨4,j,none⟩=some (.string ⟨(nm j).toArray⟩)) (h0:4<w.heap.size) :
  CallsIn F n prog 260 #[.int .u8 s] w λe W'=>∃ v,e = .returned v/\W'.ownsRow w.heap.size 9 1 v (evs s 5).length ((evs s 5).map nmV)/\(v = .slice none 0 0↔evs s 5 = [])/\Below w.heap.size w W':=by
 have h1:1<=n:=by omega
 obtain⟨i0,hi,hz0,hz1,hz2⟩:=info_parts aCc;refine callsIn_of_wp_marks func260 rfl h3 ?_ hro;simp only[ntmps260,List.size_toArray,List.length_cons,List.length_nil,Nat.reduceAdd,Nat.reduceSub,Array.replicate_succ,Array.replicate_zero,List.push_toArray,List.append_toArray,List.nil_append,List.cons_append]
 gi_wp2_with (gi_at_call 190;refine(ajG F (n-1) h4 hro _ _).mono ?_;rintro e w' ⟨rfl,rfl⟩)
 have bO:=Boxed.new w 151 (.slice none 0 0);have bN:=Boxed.new (w.alloc (.cells #[.slice none 0 0] 151)) 39 (.int .u8 s);rw[World.size_alloc] at bN;have hB0:Below w.heap.size w ((w.alloc (.cells #[.slice none 0 0] 151)).alloc (.cells #[.int .u8 s] 39)):=((Below.refl _ w).alloc (Nat.le_refl _) _).alloc (by simp) _
 refine wpIn_rangeFunc_ownG hro h1 (gf:=248) (lb:=#[.pointer (some ⟨w.heap.size+1,0,none⟩)]) rfl h5 (enters_of func248 (by kernel_rfl) rfl)
  (ajH F (n-1) h5 hro (by omega) (w.heap.size+1) s _ (by simp) bN.cell) afl afm (Below.refl _ _) (λ_=>rfl)
  (λpre W=>((∃ v,Boxed W w.heap.size 151 v/\W.ownsRow w.heap.size 9 1 v pre.length (pre.map nmV)/\(v = .slice none 0 0↔pre = []))/\Boxed W (w.heap.size+1) 39 (.int .u8 s))/\Below w.heap.size w W)
  (λ_ _ _=>False)
  (OwnFrom.and (OwnFrom.and (Own.from (holdsRow_own w.heap.size w.heap.size 151 9 1 (λpre=>pre.length) (λpre=>pre.map nmV) (λpre v=>v = .slice none 0 0↔pre = [])) _) (Own.from (boxed_own _ _ _) _)) (ownFrom_below (Nat.le_refl _) (by simp;omega)))
  (λ_ _ _ _ _ hs _ _=>hs)
  ⟨⟨⟨_,bO.alloc _,World.ownsRow_nil _ _ _ _,by simp⟩,bN⟩,hB0⟩
  (λx => { tmps:=#[.int .u8 s,undef,.slice none 0 0,.pointer (some ⟨w.heap.size,0,none⟩),.int .i64 (x.1:Int),.int .u8 s,.func (.func 248) #[] #[.pointer (some ⟨w.heap.size+1,0,none⟩)],.int .i64 (x.1:Int),.int .u8 (2^x.1%256),undef,undef,undef,undef,undef,undef,undef],defers:=[] }) ?assign ?body ?done ?stop
 case assign =>
  intro l x W K hK
  gi_wp2
  exact hK
 case body =>
  rintro l pre x W ⟨⟨⟨v,hv,hrow,hnil⟩,bN1⟩,hB⟩ hlt;have hc:=hv.cell;have hcA:=(hv.alloc (.cells #[.string ⟨(nm x.1).toArray⟩] 9)).cell;have hx:(x.1:Int)<5:=by have:=x.2;omega
  have hc0:W.cell? ⟨4,x.1,none⟩=some (.string ⟨(nm x.1).toArray⟩):=(hB.cell (p:=⟨4,x.1,none⟩) h0).trans (hg x.1 x.2)
  gi_wp2
  refine am8 [[0,1,2,3,4,5,6],[1,0,2,3,4,5,6],[1,2,0,3,4,5,6],[1,2,3,0,4,5,6],[1,2,3,4,0,5,6]] (by kernel_rfl) (by kernel_rfl) ?_;simp only[List.forall_mem_cons,List.filterMap,List.getElem?_toArray,List.getElem?_cons_zero,List.getElem?_cons_succ];refine⟨?_,?_,?_,?_,?_,λ_ h=>by cases h⟩
  all_goals
   gi_wp2_with (gi_at_builtin;refine wpListIn_append_own _ rfl _ _ 151 rfl w.heap.size 9 i0 (.string ⟨#[]⟩) 1 16 underlying151 hi hz0 hz1 hz2 rfl (by decide) _ _ _ rfl ((hrow.alloc _).drew) ⟨W.heap.size,0,none⟩ 1 1 [nmV x] rfl rfl (cell_one_new _ _ _) (by simp[Value.oneCell',nmV]) (by unfold maxLen;omega) (by omega) (by have:=hB.size;simp;omega) ?_;intro v' w1 hown' hgrow0 _;obtain⟨g',cap',rfl⟩:=ownsRow_succ hown';have hgrow:(W.alloc (.cells #[nmV x] 9)).grownBy w1 v.ownBlock:=⟨hgrow0.os,hgrow0.tape,hgrow0.output,hgrow0.size,hgrow0.block⟩;obtain⟨hv1,hv2,hr2,hk2,hb2⟩:=hv.appended (by decide) hrow hB.size (Nat.le_refl _) hown' hgrow;have bN2:=((bN1.alloc (.cells #[nmV x] 9)).kept hgrow (bN1.not_row (by decide) hrow)).other (B':=w.heap.size) (by omega) (.slice (some ⟨g',0,none⟩) (pre.length+1) cap');have hc1:=hv1.cell;have hf1:=hv1.frozen)
   exact⟨hk2.from _,λu hu=>by rw[bN1.cell] at hu;cases hu;exact bN2.cell,⟨⟨_,hv2,by simpa using hr2,by simp⟩,bN2⟩,hB.trans hb2⟩
 case done =>
  rintro D ys W hD rfl ⟨⟨⟨v,hv,hrow,hnil⟩,bN1⟩,hB⟩ hK;have hc:=hv.cell
  gi_wp2
  refine⟨by simp,.inl ⟨_,_,rfl,run_takeDeferred hK,?_⟩⟩;exact⟨_,results_tmp rfl _ _ _,v,rfl,ownsRow_putObj hrow _ hK rfl,hnil,hB.trans (belowK_b (w:=w) (Nat.le_refl _) W D _ _ (by simp at hD;omega) hK rfl rfl)⟩
 case stop =>
  rintro D c pre W _ _ h _;exact h.elim
def aCm (w:World):Prop:=∀ j,j<5->w.cell? ⟨4,j,none⟩=some (.string ⟨(nm j).toArray⟩)
theorem aCm.bel {A B:World} (h:aCm A) (hb:vY A B):aCm B:=λj hj=>(hb.cell _ _ (Aa (h 0 (by decide)))).trans (h j hj)
end Go.Proofs.YtippohicjhilnaaGreatDoor.JN
