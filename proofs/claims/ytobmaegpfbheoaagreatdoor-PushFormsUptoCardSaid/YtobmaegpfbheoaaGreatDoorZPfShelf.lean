/- The shelf's contracts that are used. -/
import Derived.Shelf.SlSortFuncK.WholeK
import Derived.Shelf.GgSortFunc.Tiny
import Derived.Ground.GgsProg
import Derived.Shelf.Strings.Builder1
import Derived.Shelf.Small.Utf8
import Derived.Shelf.Small.Bits
import Derived.Shelf.Small.Strs
import Derived.Shelf.Small.Wraps
import Derived.Shelf.Strings.BuilderF
import Derived.Shelf.Strings.BuilderK
import Derived.Shelf.Strings.BuilderRune
import Derived.Shelf.Utf8.AppendRunePlain
import Derived.Shelf.Strconv.Itoa0
import Derived.Shelf.Strconv.Itoa1
import Derived.Shelf.LaysM
import Derived.Shelf.Strconv.Itoa2
import Derived.Shelf.Strconv.Itoa3
import Derived.Shelf.Strconv.Itoa4
import Derived.Ground.GgsProg
import Derived.Shelf.GgSortFunc.Insertion
import Derived.Shelf.GgSortFunc.Small
import Derived.Shelf.GgSortFunc.InsertionK
import Derived.Shelf.GgSortFunc.SmallK
import Derived.Shelf.GgSortFunc.Tiny
import Derived.Shelf.GgSortFunc.Compose
import Derived.Shelf.GgSortFunc.LotD
import Derived.Shelf.Strings.Prefix
import Derived.Shelf.Unicode.DecodeSlow
import Derived.Shelf.Unicode.DecodeAny
import Derived.Shelf.Unicode.ValidAny
import Derived.Shelf.SlSortFunc.Xorshift
import Derived.Shelf.SlSortFuncK.ComposeK
import Derived.Shelf.SlSortFuncK.SiftDownK
import Derived.Shelf.SlSortFuncK.HeapSortK
import Derived.Shelf.SlSortFuncK.PartialInsertionK
import Derived.Shelf.SlSortFuncK.LotDK
import Derived.Shelf.SlSortFuncK.PivotK
import Derived.Shelf.SlSortFuncK.PartitionK
import Derived.Shelf.SlSortFuncK.PdqK
import Derived.Shelf.SlSortFuncK.WholeK
import Derived.Test.YtobmaegpfbheoaaGreatDoorProg
namespace Go.Proofs
open Go.Shelf
def Tryz.lays121_ren:Go.Shelf.Ren:=⟨fun|121=>98|214=>152|n=>n,fun|4=>4|9=>9|n=>n,fun|n=>n⟩
theorem Tryz.lays121:Go.Proofs.Lays.n121 Tryz.prog Tryz.lays121_ren:={
 mixed:=by kernel_rfl
 f121:=Tryz.func98.trans (congrArg some (by kernel_rfl))
 f214:=Tryz.func152.trans (congrArg some (by kernel_rfl))
 t4:=Tryz.underlying4
 a4:=Tryz.isAgg4
 z4:=Tryz.sizeOf4
 v4:=Tryz.zeroValue4
 t9:=Tryz.underlying9
 a9:=Tryz.isAgg9
 z9:=Tryz.sizeOf9
 v9:=Tryz.zeroValue9}
open Go.RowKit in
theorem Tryz.strconv_FormatBool (b:Bool) (w:World):
 Calls Tryz.prog 98 #[.bool b] w fun e w'=>e=.returned (.string ⟨(Lib.formatBool b).toArray⟩)/\w'=w:=Any.strconv_FormatBool Tryz.lays121 b w
def Tryz.lays242_ren:Go.Shelf.Ren:=⟨fun|242=>230|278=>248|n=>n,fun|37=>26|21=>21|51=>113|4=>4|5=>5|46=>200|n=>n,fun|n=>n⟩
theorem Tryz.lays242:Go.Proofs.Lays.n242 Tryz.prog Tryz.lays242_ren:={
 mixed:=by kernel_rfl
 f242:=Tryz.func230.trans (congrArg some (by kernel_rfl))
 f278:=Tryz.func248.trans (congrArg some (by kernel_rfl))
 t4:=Tryz.underlying4
 a4:=Tryz.isAgg4
 z4:=Tryz.sizeOf4
 v4:=Tryz.zeroValue4
 t5:=Tryz.underlying5
 a5:=Tryz.isAgg5
 z5:=Tryz.sizeOf5
 v5:=Tryz.zeroValue5
 t21:=Tryz.underlying21
 a21:=Tryz.isAgg21
 z21:=Tryz.sizeOf21
 v21:=Tryz.zeroValue21
 t37:=Tryz.underlying26
 a37:=Tryz.isAgg26
 z37:=Tryz.sizeOf26
 v37:=Tryz.zeroValue26
 t46:=Tryz.underlying200
 a46:=Tryz.isAgg200
 z46:=Tryz.sizeOf200
 v46:=Tryz.zeroValue200
 t51:=Tryz.underlying113
 a51:=Tryz.isAgg113
 z51:=Tryz.sizeOf113
 v51:=Tryz.zeroValue113}
open Go.RowKit in
theorem Tryz.utf8_AppendRune_plain (B:Nat) (v:Value) (n:Nat) (xs:List Value) (r:Int) (hr0: -2147483648<=r) (hr1:r<=2147483647) (w:World) (hown:w.ownsRow B 5 1 v n xs) (hlen:n+4<=140737488355328) (hBw:B<=w.heap.size):
 Calls Tryz.prog 230 #[v,.int .i32 r] w fun e w'=> ∃v',e=.returned v'/\w'.ownsRow B 5 1 v' (n+(Lib.runeCells r).length) (xs++Lib.runeCells r)/\ ∃o,(w.alloc o).grownBy w' v.ownBlock:=Any.utf8_AppendRune_plain Tryz.lays242 (by kernel_rfl) B v n xs r hr0 hr1 w hown hlen hBw
def Tryz.laysM173_ren:Go.Shelf.Ren:=⟨fun|173=>100|246=>153|283=>197|284=>198|285=>199|286=>200|129=>186|317=>224|318=>225|319=>226|320=>227|337=>245|338=>246|n=>n,fun|2=>2|3=>3|9=>9|4=>4|171=>242|0=>0|53=>22|37=>26|5=>5|173=>244|212=>278|51=>113|20=>20|213=>279|46=>200|232=>304|233=>305|n=>n,fun|17=>3|18=>4|19=>5|n=>n⟩
theorem Tryz.laysM173:Go.Proofs.LaysM.n173 Tryz.prog Tryz.laysM173_ren:={
 mixed:=by kernel_rfl
 f129:=Tryz.func186.trans (congrArg some (by kernel_rfl))
 f173:=Tryz.func100.trans (congrArg some (by kernel_rfl))
 f246:=Tryz.func153.trans (congrArg some (by kernel_rfl))
 f283:=Tryz.func197.trans (congrArg some (by kernel_rfl))
 f284:=Tryz.func198.trans (congrArg some (by kernel_rfl))
 f285:=Tryz.func199.trans (congrArg some (by kernel_rfl))
 f286:=Tryz.func200.trans (congrArg some (by kernel_rfl))
 f317:=Tryz.func224.trans (congrArg some (by kernel_rfl))
 f318:=Tryz.func225.trans (congrArg some (by kernel_rfl))
 f319:=Tryz.func226.trans (congrArg some (by kernel_rfl))
 f320:=Tryz.func227.trans (congrArg some (by kernel_rfl))
 f337:=Tryz.func245.trans (congrArg some (by kernel_rfl))
 f338:=Tryz.func246.trans (congrArg some (by kernel_rfl))
 t0:=Tryz.underlying0
 a0:=Tryz.isAgg0
 z0:=Tryz.sizeOf0
 v0:=Tryz.zeroValue0
 t2:=Tryz.underlying2
 a2:=Tryz.isAgg2
 z2:=Tryz.sizeOf2
 v2:=Tryz.zeroValue2
 t3:=Tryz.underlying3
 a3:=Tryz.isAgg3
 z3:=Tryz.sizeOf3
 v3:=Tryz.zeroValue3
 t4:=Tryz.underlying4
 a4:=Tryz.isAgg4
 z4:=Tryz.sizeOf4
 v4:=Tryz.zeroValue4
 t5:=Tryz.underlying5
 a5:=Tryz.isAgg5
 z5:=Tryz.sizeOf5
 v5:=Tryz.zeroValue5
 t9:=Tryz.underlying9
 a9:=Tryz.isAgg9
 z9:=Tryz.sizeOf9
 v9:=Tryz.zeroValue9
 t20:=Tryz.underlying20
 a20:=Tryz.isAgg20
 z20:=Tryz.sizeOf20
 v20:=Tryz.zeroValue20
 t37:=Tryz.underlying26
 a37:=Tryz.isAgg26
 z37:=Tryz.sizeOf26
 v37:=Tryz.zeroValue26
 t46:=Tryz.underlying200
 a46:=Tryz.isAgg200
 z46:=Tryz.sizeOf200
 v46:=Tryz.zeroValue200
 t51:=Tryz.underlying113
 a51:=Tryz.isAgg113
 z51:=Tryz.sizeOf113
 v51:=Tryz.zeroValue113
 t53:=Tryz.underlying22
 a53:=Tryz.isAgg22
 z53:=Tryz.sizeOf22
 v53:=Tryz.zeroValue22
 t171:=Tryz.underlying242
 a171:=Tryz.isAgg242
 z171:=Tryz.sizeOf242
 v171:=Tryz.zeroValue242
 t173:=Tryz.underlying244
 a173:=Tryz.isAgg244
 z173:=Tryz.sizeOf244
 v173:=Tryz.zeroValue244
 t212:=Tryz.underlying278
 a212:=Tryz.isAgg278
 z212:=Tryz.sizeOf278
 v212:=Tryz.zeroValue278
 t213:=Tryz.underlying279
 a213:=Tryz.isAgg279
 z213:=Tryz.sizeOf279
 t232:=Tryz.underlying304
 a232:=Tryz.isAgg304
 z232:=Tryz.sizeOf304
 v232:=Tryz.zeroValue304
 t233:=Tryz.underlying305
 a233:=Tryz.isAgg305
 z233:=Tryz.sizeOf305
 v233:=Tryz.zeroValue305
 g17:=by kernel_rfl
 g18:=by kernel_rfl
 g19:=by kernel_rfl
 i0:=by kernel_rfl
 i2:=by kernel_rfl
 i3:=by kernel_rfl
 i4:=by kernel_rfl
 i5:=by kernel_rfl
 i9:=by kernel_rfl
 i20:=by kernel_rfl
 i37:=by kernel_rfl
 i46:=by kernel_rfl
 i51:=by kernel_rfl
 i53:=by kernel_rfl
 i171:=by kernel_rfl
 i173:=by kernel_rfl
 i212:=by kernel_rfl
 i232:=by kernel_rfl
 i233:=by kernel_rfl
 m17:=by kernel_rfl
 m18:=by kernel_rfl
 m19:=by kernel_rfl}
open Go.RowKit Go.Sort Go.Lib in
theorem Tryz.strconv_FormatInt_10 (n:Int) (h0: -9223372036854775808<=n) (h1:n<=9223372036854775807) (w:World) (htab:Lib.TabIs Tryz.prog w "internal/strconv.uint64pow10" .u64 Lib.pow10Tab):
 Calls Tryz.prog 100 #[.int .i64 n,.int .i64 10] w fun e w'=>e=.returned (.string ⟨(Lib.itoa n).toArray⟩)/\ ∃k os,w'=grow (w.drewN k) os:=Any.strconv_FormatInt_10 Tryz.laysM173 n h0 h1 w htab
def Tryz.lays197_ren:Go.Shelf.Ren:=⟨fun|197=>229|260=>247|n=>n,fun|9=>9|21=>21|3=>3|4=>4|5=>5|105=>282|119=>272|0=>0|46=>200|139=>275|138=>274|n=>n,fun|3=>1|4=>2|n=>n⟩
theorem Tryz.lays197:Go.Proofs.Lays.n197 Tryz.prog Tryz.lays197_ren:={
 mixed:=by kernel_rfl
 f197:=Tryz.func229.trans (congrArg some (by kernel_rfl))
 f260:=Tryz.func247.trans (congrArg some (by kernel_rfl))
 t0:=Tryz.underlying0
 a0:=Tryz.isAgg0
 z0:=Tryz.sizeOf0
 v0:=Tryz.zeroValue0
 t3:=Tryz.underlying3
 a3:=Tryz.isAgg3
 z3:=Tryz.sizeOf3
 v3:=Tryz.zeroValue3
 t4:=Tryz.underlying4
 a4:=Tryz.isAgg4
 z4:=Tryz.sizeOf4
 v4:=Tryz.zeroValue4
 t5:=Tryz.underlying5
 a5:=Tryz.isAgg5
 z5:=Tryz.sizeOf5
 v5:=Tryz.zeroValue5
 t9:=Tryz.underlying9
 a9:=Tryz.isAgg9
 z9:=Tryz.sizeOf9
 v9:=Tryz.zeroValue9
 t21:=Tryz.underlying21
 a21:=Tryz.isAgg21
 z21:=Tryz.sizeOf21
 v21:=Tryz.zeroValue21
 t46:=Tryz.underlying200
 a46:=Tryz.isAgg200
 z46:=Tryz.sizeOf200
 v46:=Tryz.zeroValue200
 t105:=Tryz.underlying282
 a105:=Tryz.isAgg282
 z105:=Tryz.sizeOf282
 v105:=Tryz.zeroValue282
 t119:=Tryz.underlying272
 a119:=Tryz.isAgg272
 z119:=Tryz.sizeOf272
 t138:=Tryz.underlying274
 a138:=Tryz.isAgg274
 z138:=Tryz.sizeOf274
 v138:=Tryz.zeroValue274
 t139:=Tryz.underlying275
 a139:=Tryz.isAgg275
 z139:=Tryz.sizeOf275
 v139:=Tryz.zeroValue275
 g3:=by kernel_rfl
 g4:=by kernel_rfl}
open Go.RowKit Go.Lib in
theorem Tryz.utf8_DecodeRuneInString (s:ByteArray) (w:World) (hT:Lib.Utf8Tabs 1 2 w):
 Calls Tryz.prog 229 #[.string s] w fun e w'=>e=.returned (.tuple #[.int .i32 (Lib.decodeGo s).1,.int .i64 (Lib.decodeGo s).2])/\Below w.heap.size w w':=Any.utf8_DecodeRuneInString Tryz.lays197 s w hT
def Tryz.lays196_ren:Go.Shelf.Ren:=⟨fun|196=>195|259=>222|n=>n,fun|9=>9|4=>4|3=>3|5=>5|12=>12|119=>272|0=>0|46=>200|139=>275|138=>274|53=>22|n=>n,fun|3=>1|4=>2|n=>n⟩
theorem Tryz.lays196:Go.Proofs.Lays.n196 Tryz.prog Tryz.lays196_ren:={
 mixed:=by kernel_rfl
 f196:=Tryz.func195.trans (congrArg some (by kernel_rfl))
 f259:=Tryz.func222.trans (congrArg some (by kernel_rfl))
 t0:=Tryz.underlying0
 a0:=Tryz.isAgg0
 z0:=Tryz.sizeOf0
 v0:=Tryz.zeroValue0
 t3:=Tryz.underlying3
 a3:=Tryz.isAgg3
 z3:=Tryz.sizeOf3
 v3:=Tryz.zeroValue3
 t4:=Tryz.underlying4
 a4:=Tryz.isAgg4
 z4:=Tryz.sizeOf4
 v4:=Tryz.zeroValue4
 t5:=Tryz.underlying5
 a5:=Tryz.isAgg5
 z5:=Tryz.sizeOf5
 v5:=Tryz.zeroValue5
 t9:=Tryz.underlying9
 a9:=Tryz.isAgg9
 z9:=Tryz.sizeOf9
 v9:=Tryz.zeroValue9
 t12:=Tryz.underlying12
 a12:=Tryz.isAgg12
 z12:=Tryz.sizeOf12
 v12:=Tryz.zeroValue12
 t46:=Tryz.underlying200
 a46:=Tryz.isAgg200
 z46:=Tryz.sizeOf200
 v46:=Tryz.zeroValue200
 t53:=Tryz.underlying22
 a53:=Tryz.isAgg22
 z53:=Tryz.sizeOf22
 v53:=Tryz.zeroValue22
 t119:=Tryz.underlying272
 a119:=Tryz.isAgg272
 z119:=Tryz.sizeOf272
 t138:=Tryz.underlying274
 a138:=Tryz.isAgg274
 z138:=Tryz.sizeOf274
 v138:=Tryz.zeroValue274
 t139:=Tryz.underlying275
 a139:=Tryz.isAgg275
 z139:=Tryz.sizeOf275
 v139:=Tryz.zeroValue275
 g3:=by kernel_rfl
 g4:=by kernel_rfl}
open Go.RowKit in
theorem Tryz.utf8_ValidString (s:ByteArray) (w:World) (hs:s.size<=9223372036854775807) (hT:Lib.Utf8Tabs 1 2 w):
 Calls Tryz.prog 195 #[.string s] w fun e w'=>e=.returned (.bool (Lib.validD s.data.toList))/\Below w.heap.size w w':=Any.utf8_ValidString Tryz.lays196 s w hs hT
def Tryz.sortSlice_ren:Go.Shelf.Ren:=⟨fun|6=>93|10=>144|11=>145|12=>146|13=>147|14=>148|24=>185|25=>186|26=>187|27=>188|28=>189|29=>190|30=>191|31=>192|32=>193|33=>194|34=>217|35=>218|36=>219|37=>220|38=>221|39=>244|n=>n,fun|20=>20|26=>154|35=>194|0=>0|37=>196|3=>3|41=>200|44=>203|49=>113|51=>22|4=>4|54=>236|53=>235|58=>240|5=>5|9=>9|60=>265|64=>269|66=>295|67=>211|17=>17|32=>191|33=>192|82=>349|12=>12|75=>343|76=>344|77=>345|78=>163|79=>346|80=>347|n=>n,fun|n=>n⟩
theorem Tryz.sortSlice:Go.Proofs.LaysGg.n6 Tryz.prog Tryz.sortSlice_ren:={
 mixed:=by kernel_rfl
 f6:=Tryz.func93.trans (congrArg some (by kernel_rfl))
 f10:=Tryz.func144.trans (congrArg some (by kernel_rfl))
 f11:=Tryz.func145.trans (congrArg some (by kernel_rfl))
 f12:=Tryz.func146.trans (congrArg some (by kernel_rfl))
 f13:=Tryz.func147.trans (congrArg some (by kernel_rfl))
 f14:=Tryz.func148.trans (congrArg some (by kernel_rfl))
 f24:=Tryz.func185.trans (congrArg some (by kernel_rfl))
 f25:=Tryz.func186.trans (congrArg some (by kernel_rfl))
 f26:=Tryz.func187.trans (congrArg some (by kernel_rfl))
 f27:=Tryz.func188.trans (congrArg some (by kernel_rfl))
 f28:=Tryz.func189.trans (congrArg some (by kernel_rfl))
 f29:=Tryz.func190.trans (congrArg some (by kernel_rfl))
 f30:=Tryz.func191.trans (congrArg some (by kernel_rfl))
 f31:=Tryz.func192.trans (congrArg some (by kernel_rfl))
 f32:=Tryz.func193.trans (congrArg some (by kernel_rfl))
 f33:=Tryz.func194.trans (congrArg some (by kernel_rfl))
 f34:=Tryz.func217.trans (congrArg some (by kernel_rfl))
 f35:=Tryz.func218.trans (congrArg some (by kernel_rfl))
 f36:=Tryz.func219.trans (congrArg some (by kernel_rfl))
 f37:=Tryz.func220.trans (congrArg some (by kernel_rfl))
 f38:=Tryz.func221.trans (congrArg some (by kernel_rfl))
 f39:=Tryz.func244.trans (congrArg some (by kernel_rfl))
 t0:=Tryz.underlying0
 a0:=Tryz.isAgg0
 z0:=Tryz.sizeOf0
 v0:=Tryz.zeroValue0
 i0:=by kernel_rfl
 t3:=Tryz.underlying3
 a3:=Tryz.isAgg3
 z3:=Tryz.sizeOf3
 v3:=Tryz.zeroValue3
 i3:=by kernel_rfl
 t4:=Tryz.underlying4
 a4:=Tryz.isAgg4
 z4:=Tryz.sizeOf4
 v4:=Tryz.zeroValue4
 i4:=by kernel_rfl
 t5:=Tryz.underlying5
 a5:=Tryz.isAgg5
 z5:=Tryz.sizeOf5
 v5:=Tryz.zeroValue5
 i5:=by kernel_rfl
 t9:=Tryz.underlying9
 a9:=Tryz.isAgg9
 z9:=Tryz.sizeOf9
 v9:=Tryz.zeroValue9
 i9:=by kernel_rfl
 t12:=Tryz.underlying12
 a12:=Tryz.isAgg12
 z12:=Tryz.sizeOf12
 v12:=Tryz.zeroValue12
 i12:=by kernel_rfl
 t17:=Tryz.underlying17
 a17:=Tryz.isAgg17
 z17:=Tryz.sizeOf17
 v17:=Tryz.zeroValue17
 i17:=by kernel_rfl
 t20:=Tryz.underlying20
 a20:=Tryz.isAgg20
 z20:=Tryz.sizeOf20
 v20:=Tryz.zeroValue20
 i20:=by kernel_rfl
 t26:=Tryz.underlying154
 a26:=Tryz.isAgg154
 z26:=Tryz.sizeOf154
 v26:=Tryz.zeroValue154
 i26:=by kernel_rfl
 t32:=Tryz.underlying191
 a32:=Tryz.isAgg191
 z32:=Tryz.sizeOf191
 v32:=Tryz.zeroValue191
 i32:=by kernel_rfl
 t33:=Tryz.underlying192
 a33:=Tryz.isAgg192
 z33:=Tryz.sizeOf192
 v33:=Tryz.zeroValue192
 i33:=by kernel_rfl
 t35:=Tryz.underlying194
 a35:=Tryz.isAgg194
 z35:=Tryz.sizeOf194
 v35:=Tryz.zeroValue194
 i35:=by kernel_rfl
 t37:=Tryz.underlying196
 a37:=Tryz.isAgg196
 z37:=Tryz.sizeOf196
 v37:=Tryz.zeroValue196
 i37:=by kernel_rfl
 t41:=Tryz.underlying200
 a41:=Tryz.isAgg200
 z41:=Tryz.sizeOf200
 v41:=Tryz.zeroValue200
 i41:=by kernel_rfl
 t44:=Tryz.underlying203
 a44:=Tryz.isAgg203
 z44:=Tryz.sizeOf203
 v44:=Tryz.zeroValue203
 i44:=by kernel_rfl
 t49:=Tryz.underlying113
 a49:=Tryz.isAgg113
 z49:=Tryz.sizeOf113
 v49:=Tryz.zeroValue113
 i49:=by kernel_rfl
 t51:=Tryz.underlying22
 a51:=Tryz.isAgg22
 z51:=Tryz.sizeOf22
 v51:=Tryz.zeroValue22
 i51:=by kernel_rfl
 t53:=Tryz.underlying235
 a53:=Tryz.isAgg235
 z53:=Tryz.sizeOf235
 v53:=Tryz.zeroValue235
 i53:=by kernel_rfl
 t54:=Tryz.underlying236
 a54:=Tryz.isAgg236
 z54:=Tryz.sizeOf236
 v54:=Tryz.zeroValue236
 i54:=by kernel_rfl
 t58:=Tryz.underlying240
 a58:=Tryz.isAgg240
 z58:=Tryz.sizeOf240
 v58:=Tryz.zeroValue240
 i58:=by kernel_rfl
 t60:=Tryz.underlying265
 a60:=Tryz.isAgg265
 z60:=Tryz.sizeOf265
 v60:=Tryz.zeroValue265
 i60:=by kernel_rfl
 t64:=Tryz.underlying269
 a64:=Tryz.isAgg269
 z64:=Tryz.sizeOf269
 v64:=Tryz.zeroValue269
 i64:=by kernel_rfl
 t66:=Tryz.underlying295
 a66:=Tryz.isAgg295
 z66:=Tryz.sizeOf295
 v66:=Tryz.zeroValue295
 i66:=by kernel_rfl
 t67:=Tryz.underlying211
 a67:=Tryz.isAgg211
 z67:=Tryz.sizeOf211
 v67:=Tryz.zeroValue211
 i67:=by kernel_rfl
 t75:=Tryz.underlying343
 a75:=Tryz.isAgg343
 z75:=Tryz.sizeOf343
 v75:=Tryz.zeroValue343
 i75:=by kernel_rfl
 t76:=Tryz.underlying344
 a76:=Tryz.isAgg344
 z76:=Tryz.sizeOf344
 v76:=Tryz.zeroValue344
 i76:=by kernel_rfl
 t77:=Tryz.underlying345
 a77:=Tryz.isAgg345
 z77:=Tryz.sizeOf345
 v77:=Tryz.zeroValue345
 i77:=by kernel_rfl
 t78:=Tryz.underlying163
 a78:=Tryz.isAgg163
 z78:=Tryz.sizeOf163
 v78:=Tryz.zeroValue163
 i78:=by kernel_rfl
 t79:=Tryz.underlying346
 a79:=Tryz.isAgg346
 z79:=Tryz.sizeOf346
 v79:=Tryz.zeroValue346
 i79:=by kernel_rfl
 t80:=Tryz.underlying347
 a80:=Tryz.isAgg347
 z80:=Tryz.sizeOf347
 v80:=Tryz.zeroValue347
 i80:=by kernel_rfl
 t82:=Tryz.underlying349
 a82:=Tryz.isAgg349
 z82:=Tryz.sizeOf349
 v82:=Tryz.zeroValue349
 i82:=by kernel_rfl}
theorem Tryz.sortSlice_lays:LaysGg.n6 Tryz.prog Tryz.sortSlice_ren:=Tryz.sortSlice
end Go.Proofs
