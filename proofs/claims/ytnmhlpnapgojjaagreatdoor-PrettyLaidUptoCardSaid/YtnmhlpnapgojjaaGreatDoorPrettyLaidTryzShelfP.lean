/- A part of the proof: contracts of functions and plain laws; each theorem says its own conditions. -/
import Derived.Test.YtnmhlpnapgojjaaGreatDoorPrettyLaidAl
import Derived.Shelf.Strings.Builder1
import Derived.Shelf.Strings.Builder2
import Derived.Shelf.Strings.OnBuilder
import Derived.Shelf.Small.Strs
import Derived.Shelf.Strings.BuilderF
import Derived.Shelf.Strings.BuilderK
import Derived.Shelf.Strings.Builder2Cap
import Derived.Shelf.Strings.Search1
import Derived.Shelf.Strings.Search2
import Derived.Shelf.Strings.Search3
import Derived.Shelf.LaysM
import Derived.Shelf.Strings.Shaped
import Derived.Shelf.Sort.Plain
import Derived.Shelf.Strings.Prefix
import Derived.Shelf.Bits.Mul64
import Derived.Shelf.Strings.Repeat
import Derived.Shelf.Strings.BuilderCap
import Derived.Shelf.Slices.Turned
import Derived.Shelf.Slices.In.SortNone
import Derived.Test.YtnmhlpnapgojjaaGreatDoorProg
/-
  DERIVED: THE SHELF's CONTRACTS AT THIS DUMP,IN PLAIN WORDS (tools/lay-plain.mjs out of 'TryzShelf.lean',which tools/lay-shelf.mjs wrote): THE SAME DECLARATIONS UNDER THE SAME NAMES: 'import','namespace','open','def','theorem' AND NOTHING ELSE: no command of the shelf's: FOR A HAND-IN. Each laying: the table of numbers ('.._ren') and one theorem,a field a fact of the dump's own or the kernel's comparison;each contract: ONE APPLICATION.
-/
namespace Go.Proofs
open Go.Shelf
def Tryz.lays156_ren:Go.Shelf.Ren:=⟨fun|156=>94|165=>150|166=>151|169=>152|240=>202|241=>203|276=>232|277=>233|n=>n,fun|31=>50|9=>9|3=>3|4=>4|0=>0|20=>20|72=>193|76=>196|70=>191|37=>78|75=>195|127=>222|164=>247|5=>5|80=>198|n=>n,fun|n=>n⟩
theorem Tryz.lays156:Go.Proofs.Lays.n156 Tryz.prog Tryz.lays156_ren:={
  mixed:=by kernel_rfl
  f156:=Tryz.func94.trans (congrArg some (by kernel_rfl))
  f165:=Tryz.func150.trans (congrArg some (by kernel_rfl))
  f166:=Tryz.func151.trans (congrArg some (by kernel_rfl))
  f169:=Tryz.func152.trans (congrArg some (by kernel_rfl))
  f240:=Tryz.func202.trans (congrArg some (by kernel_rfl))
  f241:=Tryz.func203.trans (congrArg some (by kernel_rfl))
  f276:=Tryz.func232.trans (congrArg some (by kernel_rfl))
  f277:=Tryz.func233.trans (congrArg some (by kernel_rfl))
  t0:=Tryz.underlying0
  a0:=Tryz.isAgg0
  z0:=Tryz.sizeOf0
  v0:=Tryz.zeroValue0
  t3:=Tryz.qU3
  a3:=Tryz.qA3
  z3:=Tryz.qZ3
  v3:=Tryz.qV3
  t4:=Tryz.underlying4
  a4:=Tryz.qA4
  z4:=Tryz.qZ4
  v4:=Tryz.zeroValue4
  t9:=Tryz.qU9
  a9:=Tryz.qA9
  z9:=Tryz.qZ9
  v9:=Tryz.qV9
  t20:=Tryz.underlying20
  a20:=Tryz.isAgg20
  z20:=Tryz.sizeOf20
  v20:=Tryz.zeroValue20
  t31:=Tryz.qU50
  a31:=Tryz.isAgg50
  z31:=Tryz.sizeOf50
  v31:=Tryz.zeroValue50
  t37:=Tryz.qU78
  a37:=Tryz.qA78
  z37:=Tryz.qZ78
  v37:=Tryz.zeroValue78
  t70:=Tryz.underlying191
  a70:=Tryz.isAgg191
  z70:=Tryz.sizeOf191
  v70:=Tryz.zeroValue191
  t72:=Tryz.underlying193
  a72:=Tryz.isAgg193
  z72:=Tryz.sizeOf193
  v72:=Tryz.zeroValue193
  t75:=Tryz.underlying195
  a75:=Tryz.isAgg195
  z75:=Tryz.sizeOf195
  v75:=Tryz.zeroValue195
  t76:=Tryz.underlying196
  a76:=Tryz.isAgg196
  z76:=Tryz.sizeOf196
  v76:=Tryz.zeroValue196
  t127:=Tryz.underlying222
  a127:=Tryz.isAgg222
  z127:=Tryz.sizeOf222
  v127:=Tryz.zeroValue222
  t164:=Tryz.underlying247
  a164:=Tryz.isAgg247
  z164:=Tryz.sizeOf247
  v164:=Tryz.zeroValue247}
theorem Tryz.Builder_Extra_156:Builder.Extra Tryz.prog Tryz.lays156_ren:={
  sizeBuilder:=by kernel_rfl
  liesBuilder:=by kernel_rfl
  t5:=Tryz.qU5
  a5:=Tryz.qA5
  z5:=Tryz.qZ5
  v5:=Tryz.qV5
  infoByte:=by kernel_rfl
  cellsByte:=by kernel_rfl
  sizeByte:=by kernel_rfl
  neB5:=by decide}
open Go.RowKit in
theorem Tryz.strings_Join_none (a:Option Addr) (c:Nat) (sep:ByteArray) (w:World) :
    Calls Tryz.prog 94 #[.slice a 0 c,.string sep] w fun e w'=>e=.returned (.string ⟨#[]⟩)∧w'=w:=Any.strings_Join_none Tryz.lays156 Tryz.Builder_Extra_156 a c sep w
open Go.RowKit in
theorem Tryz.strings_Join (bk o c:Nat) (xs:List ByteArray) (sep:ByteArray) (w:World) (hcells:∀ (j:Nat) x,xs[j]?=some x→w.cell? ⟨bk,o+j,none⟩=some (.string x)) (hbk:bk<w.heap.size) (hN:xs.length≤140737488355328) (hcap:xs.length≤c) (hlen:(Lib.join (xs.map (·.data.toList)) sep.data.toList).length≤140737488355328) :
    Calls Tryz.prog 94 #[.slice (some ⟨bk,o,none⟩) xs.length c,.string sep] w fun e w'=>e=.returned (.string ⟨(Lib.join (xs.map (·.data.toList)) sep.data.toList).toArray⟩)∧Below w.heap.size w w':=Any.strings_Join Tryz.lays156 Tryz.Builder_Extra_156 bk o c xs sep w hcells hbk hN hcap hlen
def Tryz.lays137_ren:Go.Shelf.Ren:=⟨fun|137=>227|217=>243|266=>258|n=>n,fun|9=>9|5=>5|3=>3|n=>n,fun|n=>n⟩
theorem Tryz.lays137:Go.Proofs.Lays.n137 Tryz.prog Tryz.lays137_ren:={
  mixed:=by kernel_rfl
  f137:=Tryz.func227.trans (congrArg some (by kernel_rfl))
  f217:=Tryz.func243.trans (congrArg some (by kernel_rfl))
  f266:=Tryz.func258.trans (congrArg some (by kernel_rfl))
  t3:=Tryz.qU3
  a3:=Tryz.qA3
  z3:=Tryz.qZ3
  v3:=Tryz.qV3
  t5:=Tryz.qU5
  a5:=Tryz.qA5
  z5:=Tryz.qZ5
  v5:=Tryz.qV5
  t9:=Tryz.qU9
  a9:=Tryz.qA9
  z9:=Tryz.qZ9
  v9:=Tryz.qV9}
open Go.RowKit in
theorem Tryz.strings_IndexByte (s:ByteArray) (c:Int) (w:World) :
    Calls Tryz.prog 227 #[.string s,.int .u8 c] w fun e w'=>e=.returned (.int .i64 (Lib.indexByte s.data.toList c.toNat.toUInt8))∧w'=w:=Any.strings_IndexByte Tryz.lays137 s c w
def Tryz.lays144_ren:Go.Shelf.Ren:=⟨fun|144=>244|143=>259|219=>264|217=>243|225=>265|224=>266|267=>267|266=>258|314=>268|n=>n,fun|9=>9|4=>4|3=>3|5=>5|46=>157|146=>223|51=>215|n=>n,fun|1=>1|n=>n⟩
theorem Tryz.lays144:Go.Proofs.Lays.n144 Tryz.prog Tryz.lays144_ren:={
  mixed:=by kernel_rfl
  f143:=Tryz.func259.trans (congrArg some (by kernel_rfl))
  f144:=Tryz.func244.trans (congrArg some (by kernel_rfl))
  f217:=Tryz.func243.trans (congrArg some (by kernel_rfl))
  f219:=Tryz.func264.trans (congrArg some (by kernel_rfl))
  f224:=Tryz.func266.trans (congrArg some (by kernel_rfl))
  f225:=Tryz.func265.trans (congrArg some (by kernel_rfl))
  f266:=Tryz.func258.trans (congrArg some (by kernel_rfl))
  f267:=Tryz.func267.trans (congrArg some (by kernel_rfl))
  f314:=Tryz.func268.trans (congrArg some (by kernel_rfl))
  t3:=Tryz.qU3
  a3:=Tryz.qA3
  z3:=Tryz.qZ3
  v3:=Tryz.qV3
  t4:=Tryz.underlying4
  a4:=Tryz.qA4
  z4:=Tryz.qZ4
  v4:=Tryz.zeroValue4
  t5:=Tryz.qU5
  a5:=Tryz.qA5
  z5:=Tryz.qZ5
  v5:=Tryz.qV5
  t9:=Tryz.qU9
  a9:=Tryz.qA9
  z9:=Tryz.qZ9
  v9:=Tryz.qV9
  t46:=Tryz.underlying157
  a46:=Tryz.isAgg157
  z46:=Tryz.sizeOf157
  v46:=Tryz.zeroValue157
  t51:=Tryz.underlying215
  a51:=Tryz.isAgg215
  z51:=Tryz.sizeOf215
  v51:=Tryz.zeroValue215
  t146:=Tryz.underlying223
  a146:=Tryz.isAgg223
  z146:=Tryz.sizeOf223
  v146:=Tryz.zeroValue223
  g1:=by kernel_rfl}
open Go.RowKit Go.Lib in
theorem Tryz.strings_Contains_one (s:ByteArray) (c:UInt8) (w:World) :
    Calls Tryz.prog 244 #[.string s,.string ⟨#[c]⟩] w fun e w'=>e=.returned (.bool (decide (0≤Lib.indexByte s.data.toList c)))∧w'=w:=Any.strings_Contains_one Tryz.lays144 s c w
def Tryz.lays99_ren:Go.Shelf.Ren:=⟨fun|99=>154|206=>206|n=>n,fun|9=>9|4=>4|3=>3|n=>n,fun|n=>n⟩
theorem Tryz.lays99:Go.Proofs.Lays.n99 Tryz.prog Tryz.lays99_ren:={
  mixed:=by kernel_rfl
  f99:=Tryz.func154.trans (congrArg some (by kernel_rfl))
  f206:=Tryz.func206.trans (congrArg some (by kernel_rfl))
  t3:=Tryz.qU3
  a3:=Tryz.qA3
  z3:=Tryz.qZ3
  v3:=Tryz.qV3
  t4:=Tryz.underlying4
  a4:=Tryz.qA4
  z4:=Tryz.qZ4
  v4:=Tryz.zeroValue4
  t9:=Tryz.qU9
  a9:=Tryz.qA9
  z9:=Tryz.qZ9
  v9:=Tryz.qV9}
open Go.RowKit Go.Lib in
theorem Tryz.strings_HasPrefix (s p:ByteArray) (w:World) :
    Calls Tryz.prog 154 #[.string s,.string p] w fun e w'=>e=.returned (.bool (Lib.hasPrefix s.data.toList p.data.toList))∧w'=w:=Any.strings_HasPrefix Tryz.lays99 s p w
def Tryz.lays105_ren:Go.Shelf.Ren:=⟨fun|105=>95|212=>153|99=>154|165=>150|166=>151|170=>155|169=>152|263=>204|264=>205|206=>206|240=>202|241=>203|276=>232|277=>233|n=>n,fun|9=>9|3=>3|4=>4|20=>20|0=>0|46=>157|109=>199|5=>5|72=>193|76=>196|51=>215|146=>223|53=>182|148=>225|70=>191|37=>78|75=>195|127=>222|164=>247|80=>198|n=>n,fun|n=>n⟩
theorem Tryz.lays105:Go.Proofs.Lays.n105 Tryz.prog Tryz.lays105_ren:={
  mixed:=by kernel_rfl
  f99:=Tryz.func154.trans (congrArg some (by kernel_rfl))
  f105:=Tryz.func95.trans (congrArg some (by kernel_rfl))
  f165:=Tryz.func150.trans (congrArg some (by kernel_rfl))
  f166:=Tryz.func151.trans (congrArg some (by kernel_rfl))
  f169:=Tryz.func152.trans (congrArg some (by kernel_rfl))
  f170:=Tryz.func155.trans (congrArg some (by kernel_rfl))
  f206:=Tryz.func206.trans (congrArg some (by kernel_rfl))
  f212:=Tryz.func153.trans (congrArg some (by kernel_rfl))
  f240:=Tryz.func202.trans (congrArg some (by kernel_rfl))
  f241:=Tryz.func203.trans (congrArg some (by kernel_rfl))
  f263:=Tryz.func204.trans (congrArg some (by kernel_rfl))
  f264:=Tryz.func205.trans (congrArg some (by kernel_rfl))
  f276:=Tryz.func232.trans (congrArg some (by kernel_rfl))
  f277:=Tryz.func233.trans (congrArg some (by kernel_rfl))
  t0:=Tryz.underlying0
  a0:=Tryz.isAgg0
  z0:=Tryz.sizeOf0
  v0:=Tryz.zeroValue0
  t3:=Tryz.qU3
  a3:=Tryz.qA3
  z3:=Tryz.qZ3
  v3:=Tryz.qV3
  t4:=Tryz.underlying4
  a4:=Tryz.qA4
  z4:=Tryz.qZ4
  v4:=Tryz.zeroValue4
  t5:=Tryz.qU5
  a5:=Tryz.qA5
  z5:=Tryz.qZ5
  v5:=Tryz.qV5
  t9:=Tryz.qU9
  a9:=Tryz.qA9
  z9:=Tryz.qZ9
  v9:=Tryz.qV9
  t20:=Tryz.underlying20
  a20:=Tryz.isAgg20
  z20:=Tryz.sizeOf20
  v20:=Tryz.zeroValue20
  t37:=Tryz.qU78
  a37:=Tryz.qA78
  z37:=Tryz.qZ78
  v37:=Tryz.zeroValue78
  t46:=Tryz.underlying157
  a46:=Tryz.isAgg157
  z46:=Tryz.sizeOf157
  v46:=Tryz.zeroValue157
  t51:=Tryz.underlying215
  a51:=Tryz.isAgg215
  z51:=Tryz.sizeOf215
  v51:=Tryz.zeroValue215
  t53:=Tryz.qU182
  a53:=Tryz.isAgg182
  z53:=Tryz.sizeOf182
  v53:=Tryz.zeroValue182
  t70:=Tryz.underlying191
  a70:=Tryz.isAgg191
  z70:=Tryz.sizeOf191
  v70:=Tryz.zeroValue191
  t72:=Tryz.underlying193
  a72:=Tryz.isAgg193
  z72:=Tryz.sizeOf193
  v72:=Tryz.zeroValue193
  t75:=Tryz.underlying195
  a75:=Tryz.isAgg195
  z75:=Tryz.sizeOf195
  v75:=Tryz.zeroValue195
  t76:=Tryz.underlying196
  a76:=Tryz.isAgg196
  z76:=Tryz.sizeOf196
  v76:=Tryz.zeroValue196
  t109:=Tryz.underlying199
  a109:=Tryz.isAgg199
  z109:=Tryz.sizeOf199
  v109:=Tryz.zeroValue199
  t127:=Tryz.underlying222
  a127:=Tryz.isAgg222
  z127:=Tryz.sizeOf222
  v127:=Tryz.zeroValue222
  t146:=Tryz.underlying223
  a146:=Tryz.isAgg223
  z146:=Tryz.sizeOf223
  v146:=Tryz.zeroValue223
  t148:=Tryz.underlying225
  a148:=Tryz.isAgg225
  z148:=Tryz.sizeOf225
  v148:=Tryz.zeroValue225
  t164:=Tryz.underlying247
  a164:=Tryz.isAgg247
  z164:=Tryz.sizeOf247
  v164:=Tryz.zeroValue247}
theorem Tryz.Builder_Extra_105:Builder.Extra Tryz.prog Tryz.lays105_ren:={
  sizeBuilder:=by kernel_rfl
  liesBuilder:=by kernel_rfl
  t5:=Tryz.qU5
  a5:=Tryz.qA5
  z5:=Tryz.qZ5
  v5:=Tryz.qV5
  infoByte:=by kernel_rfl
  cellsByte:=by kernel_rfl
  sizeByte:=by kernel_rfl
  neB5:=by decide}
open Go.RowKit Go.Lib in
theorem Tryz.strings_Repeat (s:ByteArray) (c:Nat) (w:World) (hc:c≤9223372036854775807) (hlen:s.size*c≤140737488355328) :
    Calls Tryz.prog 95 #[.string s,.int .i64 c] w fun e w'=>e=.returned (.string ⟨(Lib.repeatL s.data.toList c).toArray⟩)∧Below w.heap.size w w':=Any.strings_Repeat Tryz.lays105 Tryz.Builder_Extra_105 s c w hc hlen
end Go.Proofs
