import Derived.Shelf.Strings.Builder1
import Derived.Shelf.Strings.Builder2
import Derived.Shelf.Strings.OnBuilder
import Derived.Shelf.Strings.BuilderF
import Derived.Shelf.Strings.BuilderK
import Derived.Shelf.Strings.Builder2Cap
import Derived.Shelf.Strconv.Itoa0
import Derived.Shelf.Strconv.Itoa1
import Derived.Shelf.LaysM
import Derived.Shelf.Strconv.Itoa2
import Derived.Shelf.Strconv.Itoa3
import Derived.Shelf.Strings.BuilderCap
import Derived.Ground.Names2Prog
import Derived.Shelf.Slices.Clone
import Derived.Test.YtjafncnjefnloaaDoorProg
namespace Go.Proofs
open Go.Shelf
def Tryd.lays156_ren :Go.Shelf.Ren:=⟨fun|156=>113|165=>119|166=>120|169=>121|240=>123|241=>124|276=>126|277=>127|n=>n,fun|31=>134|9=>9|3=>3|4=>4|0=>0|20=>20|72=>140|76=>144|70=>138|37=>57|75=>143|127=>147|164=>149|5=>5|80=>146|n=>n,fun|n=>n⟩
theorem Tryd.lays156 :Go.Proofs.Lays.n156 Tryd.prog Tryd.lays156_ren:={
 mixed:=by kernel_rfl
 f156:=Tryd.func113.trans (congrArg some (by kernel_rfl))
 f165:=Tryd.func119.trans (congrArg some (by kernel_rfl))
 f166:=Tryd.func120.trans (congrArg some (by kernel_rfl))
 f169:=Tryd.func121.trans (congrArg some (by kernel_rfl))
 f240:=Tryd.func123.trans (congrArg some (by kernel_rfl))
 f241:=Tryd.func124.trans (congrArg some (by kernel_rfl))
 f276:=Tryd.func126.trans (congrArg some (by kernel_rfl))
 f277:=Tryd.func127.trans (congrArg some (by kernel_rfl))
 t0:=Tryd.underlying0
 a0:=Tryd.isAgg0
 z0:=Tryd.sizeOf0
 v0:=Tryd.zeroValue0
 t3:=Tryd.underlying3
 a3:=Tryd.isAgg3
 z3:=Tryd.sizeOf3
 v3:=Tryd.zeroValue3
 t4:=Tryd.underlying4
 a4:=Tryd.isAgg4
 z4:=Tryd.sizeOf4
 v4:=Tryd.zeroValue4
 t9:=Tryd.underlying9
 a9:=Tryd.isAgg9
 z9:=Tryd.sizeOf9
 v9:=Tryd.zeroValue9
 t20:=Tryd.underlying20
 a20:=Tryd.isAgg20
 z20:=Tryd.sizeOf20
 v20:=Tryd.zeroValue20
 t31:=Tryd.underlying134
 a31:=Tryd.isAgg134
 z31:=Tryd.sizeOf134
 v31:=Tryd.zeroValue134
 t37:=Tryd.underlying57
 a37:=Tryd.isAgg57
 z37:=Tryd.sizeOf57
 v37:=Tryd.zeroValue57
 t70:=Tryd.underlying138
 a70:=Tryd.isAgg138
 z70:=Tryd.sizeOf138
 v70:=Tryd.zeroValue138
 t72:=Tryd.underlying140
 a72:=Tryd.isAgg140
 z72:=Tryd.sizeOf140
 v72:=Tryd.zeroValue140
 t75:=Tryd.underlying143
 a75:=Tryd.isAgg143
 z75:=Tryd.sizeOf143
 v75:=Tryd.zeroValue143
 t76:=Tryd.underlying144
 a76:=Tryd.isAgg144
 z76:=Tryd.sizeOf144
 v76:=Tryd.zeroValue144
 t127:=Tryd.underlying147
 a127:=Tryd.isAgg147
 z127:=Tryd.sizeOf147
 v127:=Tryd.zeroValue147
 t164:=Tryd.underlying149
 a164:=Tryd.isAgg149
 z164:=Tryd.sizeOf149
 v164:=Tryd.zeroValue149}
theorem Tryd.Builder_Extra_156 :Builder.Extra Tryd.prog Tryd.lays156_ren:={
 sizeBuilder:=by kernel_rfl
 liesBuilder:=by kernel_rfl
 t5:=Tryd.underlying5
 a5:=Tryd.isAgg5
 z5:=Tryd.sizeOf5
 v5:=Tryd.zeroValue5
 infoByte:=by kernel_rfl
 cellsByte:=by kernel_rfl
 sizeByte:=by kernel_rfl
 neB5:=by decide}
open Go.RowKit in
theorem Tryd.strings_Join_none (a:Option Addr) (c:Nat) (sep:ByteArray) (w:World):
  Calls Tryd.prog 113 #[.slice a 0 c,.string sep] w fun e w'=>e= .returned (.string ⟨#[]⟩)/\w'=w:=Any.strings_Join_none Tryd.lays156 Tryd.Builder_Extra_156 a c sep w
open Go.RowKit in
theorem Tryd.strings_Join (bk o c:Nat) (xs:List ByteArray) (sep:ByteArray) (w:World) (hcells:∀(j:Nat) x,xs[j]? =some x->w.cell? ⟨bk,o+j,none⟩=some (.string x)) (hbk:bk<w.heap.size) (hN:xs.length<=140737488355328) (hcap:xs.length<=c) (hlen:(Lib.join (xs.map (·.data.toList)) sep.data.toList).length<=140737488355328):
  Calls Tryd.prog 113 #[.slice (some ⟨bk,o,none⟩) xs.length c,.string sep] w fun e w'=>e= .returned (.string ⟨(Lib.join (xs.map (·.data.toList)) sep.data.toList).toArray⟩)/\Below w.heap.size w w':=Any.strings_Join Tryd.lays156 Tryd.Builder_Extra_156 bk o c xs sep w hcells hbk hN hcap hlen
def Tryd.lays171_ren :Go.Shelf.Ren:=⟨fun|171=>118|243=>122|246=>125|283=>128|284=>129|285=>130|286=>131|129=>133|317=>132|318=>134|319=>135|320=>136|337=>137|338=>138|n=>n,fun|3=>3|9=>9|2=>2|4=>4|171=>152|0=>0|53=>153|37=>57|5=>5|173=>156|212=>159|51=>160|20=>20|213=>161|46=>133|232=>165|233=>166|n=>n,fun|17=>1|18=>2|19=>3|n=>n⟩
theorem Tryd.lays171 :Go.Proofs.Lays.n171 Tryd.prog Tryd.lays171_ren:={
 mixed:=by kernel_rfl
 f129:=Tryd.func133.trans (congrArg some (by kernel_rfl))
 f171:=Tryd.func118.trans (congrArg some (by kernel_rfl))
 f243:=Tryd.func122.trans (congrArg some (by kernel_rfl))
 f246:=Tryd.func125.trans (congrArg some (by kernel_rfl))
 f283:=Tryd.func128.trans (congrArg some (by kernel_rfl))
 f284:=Tryd.func129.trans (congrArg some (by kernel_rfl))
 f285:=Tryd.func130.trans (congrArg some (by kernel_rfl))
 f286:=Tryd.func131.trans (congrArg some (by kernel_rfl))
 f317:=Tryd.func132.trans (congrArg some (by kernel_rfl))
 f318:=Tryd.func134.trans (congrArg some (by kernel_rfl))
 f319:=Tryd.func135.trans (congrArg some (by kernel_rfl))
 f320:=Tryd.func136.trans (congrArg some (by kernel_rfl))
 f337:=Tryd.func137.trans (congrArg some (by kernel_rfl))
 f338:=Tryd.func138.trans (congrArg some (by kernel_rfl))
 t0:=Tryd.underlying0
 a0:=Tryd.isAgg0
 z0:=Tryd.sizeOf0
 v0:=Tryd.zeroValue0
 t2:=Tryd.underlying2
 a2:=Tryd.isAgg2
 z2:=Tryd.sizeOf2
 v2:=Tryd.zeroValue2
 t3:=Tryd.underlying3
 a3:=Tryd.isAgg3
 z3:=Tryd.sizeOf3
 v3:=Tryd.zeroValue3
 t4:=Tryd.underlying4
 a4:=Tryd.isAgg4
 z4:=Tryd.sizeOf4
 v4:=Tryd.zeroValue4
 t5:=Tryd.underlying5
 a5:=Tryd.isAgg5
 z5:=Tryd.sizeOf5
 v5:=Tryd.zeroValue5
 t9:=Tryd.underlying9
 a9:=Tryd.isAgg9
 z9:=Tryd.sizeOf9
 v9:=Tryd.zeroValue9
 t20:=Tryd.underlying20
 a20:=Tryd.isAgg20
 z20:=Tryd.sizeOf20
 v20:=Tryd.zeroValue20
 t37:=Tryd.underlying57
 a37:=Tryd.isAgg57
 z37:=Tryd.sizeOf57
 v37:=Tryd.zeroValue57
 t46:=Tryd.underlying133
 a46:=Tryd.isAgg133
 z46:=Tryd.sizeOf133
 v46:=Tryd.zeroValue133
 t51:=Tryd.underlying160
 a51:=Tryd.isAgg160
 z51:=Tryd.sizeOf160
 v51:=Tryd.zeroValue160
 t53:=Tryd.underlying153
 a53:=Tryd.isAgg153
 z53:=Tryd.sizeOf153
 v53:=Tryd.zeroValue153
 t171:=Tryd.underlying152
 a171:=Tryd.isAgg152
 z171:=Tryd.sizeOf152
 v171:=Tryd.zeroValue152
 t173:=Tryd.underlying156
 a173:=Tryd.isAgg156
 z173:=Tryd.sizeOf156
 v173:=Tryd.zeroValue156
 t212:=Tryd.underlying159
 a212:=Tryd.isAgg159
 z212:=Tryd.sizeOf159
 v212:=Tryd.zeroValue159
 t213:=Tryd.underlying161
 a213:=Tryd.isAgg161
 z213:=Tryd.sizeOf161
 t232:=Tryd.underlying165
 a232:=Tryd.isAgg165
 z232:=Tryd.sizeOf165
 v232:=Tryd.zeroValue165
 t233:=Tryd.underlying166
 a233:=Tryd.isAgg166
 z233:=Tryd.sizeOf166
 v233:=Tryd.zeroValue166
 g17:=by kernel_rfl
 g18:=by kernel_rfl
 g19:=by kernel_rfl}
open Go.RowKit Go.Sort Go.Lib in
theorem Tryd.strconv_Itoa_small (i:Nat) (hi:i<100) (w:World):
  Calls Tryd.prog 118 #[.int .i64 i] w fun e w'=>e= .returned (.string ⟨(Lib.decDigits i).toArray⟩)/\w'=w:=Any.strconv_Itoa_small Tryd.lays171 i hi w
def Tryd.laysNm215_ren :Go.Shelf.Ren:=⟨fun|15=>83|n=>n,fun|22=>26|3=>3|4=>4|n=>n,fun|n=>n⟩
theorem Tryd.laysNm215 :Go.Proofs.Lays2.n15 Tryd.prog Tryd.laysNm215_ren:={
 mixed:=by kernel_rfl
 f15:=Tryd.func83.trans (congrArg some (by kernel_rfl))
 t3:=Tryd.underlying3
 a3:=Tryd.isAgg3
 z3:=Tryd.sizeOf3
 v3:=Tryd.zeroValue3
 t4:=Tryd.underlying4
 a4:=Tryd.isAgg4
 z4:=Tryd.sizeOf4
 v4:=Tryd.zeroValue4
 t22:=Tryd.underlying26
 a22:=Tryd.isAgg26
 z22:=Tryd.sizeOf26
 v22:=Tryd.zeroValue26
 i3:=by kernel_rfl}
open Go.RowKit Go.Lib in
theorem Tryd.slices_Clone_int (b off n c:Nat) (zs:List Int) (w:World) (hz:n<=zs.length) (hbig:n*8<=140737488355328) (hc:∀j,j<zs.length->w.cell? ⟨b,off+j,none⟩=some (.int .i64 (zs.getD j 0))):
  Calls Tryd.prog 83 #[.slice (some ⟨b,off,none⟩) n c] w fun e w'=>∃v',e= .returned v'/\w'.ownsRow w.heap.size 3 1 v' n ((zs.take n).map (Value.int .i64))/\v'≠.slice none 0 0/\Below w.heap.size w w':=Any.slices_Clone_int Tryd.laysNm215 b off n c zs w hz hbig hc
open Go.RowKit Go.Lib in
theorem Tryd.slices_Clone_int_nil (n c:Nat) (w:World):
  Calls Tryd.prog 83 #[.slice none n c] w fun e w'=>e= .returned (.slice none 0 0)/\w'=w:=Any.slices_Clone_int_nil Tryd.laysNm215 n c w
open Go.RowKit Go.Lib in
theorem Tryd.slices_Clone_int_zero (a:Addr) (c:Nat) (w:World):
  Calls Tryd.prog 83 #[.slice (some a) 0 c] w fun e w'=>∃v',e= .returned v'/\w'.ownsRow w.heap.size 3 1 v' 0 []/\v'≠.slice none 0 0/\Below w.heap.size w w':=Any.slices_Clone_int_zero Tryd.laysNm215 a c w
end Go.Proofs
