/- DERIVED: THE SHELF's CONTRACTS AT THIS DUMP, IN PLAIN WORDS (tools/lay-plain.mjs out of 'T -/
import Derived.Shelf.Strings.SlTrimAscii
import Derived.Test.YthfmekdbcoaolaaGreatDoorProg
namespace Go.Proofs
set_option linter.unusedSimpArgs false
set_option linter.unusedVariables false
open Go.Shelf
def Tryz.lays160s_ren:Go.Shelf.Ren:=⟨fun|160=>134|232=>157|231=>156|227=>158|234=>160|233=>159|236=>162|235=>161|228=>177|271=>180|151=>179|197=>178|120=>191|152=>188|260=>190|137=>143|119=>193|224=>182|225=>181|217=>166|266=>184|n=>n,fun|9=>9|4=>4|3=>3|5=>5|117=>225|116=>224|0=>0|124=>228|21=>21|105=>236|46=>23|119=>246|139=>249|138=>248|n=>n,fun|3=>1|4=>2|n=>n⟩
theorem Tryz.lays160s:Go.Proofs.Lays.n160 Tryz.prog Tryz.lays160s_ren:={
 mixed:=by kernel_rfl
 f119:=Tryz.func193.trans (congrArg some (by kernel_rfl))
 f120:=Tryz.func191.trans (congrArg some (by kernel_rfl))
 f137:=Tryz.func143.trans (congrArg some (by kernel_rfl))
 f151:=Tryz.func179.trans (congrArg some (by kernel_rfl))
 f152:=Tryz.func188.trans (congrArg some (by kernel_rfl))
 f160:=Tryz.func134.trans (congrArg some (by kernel_rfl))
 f197:=Tryz.func178.trans (congrArg some (by kernel_rfl))
 f217:=Tryz.func166.trans (congrArg some (by kernel_rfl))
 f224:=Tryz.func182.trans (congrArg some (by kernel_rfl))
 f225:=Tryz.func181.trans (congrArg some (by kernel_rfl))
 f227:=Tryz.func158.trans (congrArg some (by kernel_rfl))
 f228:=Tryz.func177.trans (congrArg some (by kernel_rfl))
 f231:=Tryz.func156.trans (congrArg some (by kernel_rfl))
 f232:=Tryz.func157.trans (congrArg some (by kernel_rfl))
 f233:=Tryz.func159.trans (congrArg some (by kernel_rfl))
 f234:=Tryz.func160.trans (congrArg some (by kernel_rfl))
 f235:=Tryz.func161.trans (congrArg some (by kernel_rfl))
 f236:=Tryz.func162.trans (congrArg some (by kernel_rfl))
 f260:=Tryz.func190.trans (congrArg some (by kernel_rfl))
 f266:=Tryz.func184.trans (congrArg some (by kernel_rfl))
 f271:=Tryz.func180.trans (congrArg some (by kernel_rfl))
 t0:=Tryz.underlying0
 a0:=Tryz.isAgg0
 z0:=Tryz.sizeOf0
 v0:=Tryz.zeroValue0
 t3:=Tryz.underlying3
 a3:=Tryz.isAgg3
 z3:=Tryz.sizeOf3
 v3:=Tryz.zeroValue3
 t4:=Tryz.underlying4
 a4:=Tryz.isAgg4
 z4:=Tryz.sizeOf4
 v4:=Tryz.zeroValue4
 t5:=Tryz.underlying5
 a5:=Tryz.isAgg5
 z5:=Tryz.sizeOf5
 v5:=Tryz.zeroValue5
 t9:=Tryz.underlying9
 a9:=Tryz.isAgg9
 z9:=Tryz.sizeOf9
 v9:=Tryz.zeroValue9
 t21:=Tryz.underlying21
 a21:=Tryz.isAgg21
 z21:=Tryz.sizeOf21
 v21:=Tryz.zeroValue21
 t46:=Tryz.underlying23
 a46:=Tryz.isAgg23
 z46:=Tryz.sizeOf23
 v46:=Tryz.zeroValue23
 t105:=Tryz.underlying236
 a105:=Tryz.isAgg236
 z105:=Tryz.sizeOf236
 v105:=Tryz.zeroValue236
 t116:=Tryz.underlying224
 a116:=Tryz.isAgg224
 z116:=Tryz.sizeOf224
 t117:=Tryz.underlying225
 a117:=Tryz.isAgg225
 z117:=Tryz.sizeOf225
 v117:=Tryz.zeroValue225
 t119:=Tryz.underlying246
 a119:=Tryz.isAgg246
 z119:=Tryz.sizeOf246
 t124:=Tryz.underlying228
 a124:=Tryz.isAgg228
 z124:=Tryz.sizeOf228
 v124:=Tryz.zeroValue228
 t138:=Tryz.underlying248
 a138:=Tryz.isAgg248
 z138:=Tryz.sizeOf248
 v138:=Tryz.zeroValue248
 t139:=Tryz.underlying249
 a139:=Tryz.isAgg249
 z139:=Tryz.sizeOf249
 v139:=Tryz.zeroValue249
 g3:=by kernel_rfl
 g4:=by kernel_rfl }
open Go.RowKit Go.Lib in
theorem Tryz.strings_Trim_ascii (hv116:∀ w,(zeroValue 224).run Tryz.prog w=.ok (.agg (Array.replicate 256 (.bool false))) w) (s cutset:ByteArray) (w:World) (hs:s.size<=9223372036854775807) (hcs:cutset.size<4294967281) (hascii:∀ (j:Nat) b,cutset.data.toList[j]?=some b->b.toNat<128) :
 Calls Tryz.prog 134 #[.string s,.string cutset] w fun e w'=>e=.returned (.string ⟨(Lib.trimS s.data.toList cutset.data.toList).toArray⟩)/\Below w.heap.size w w':=Any.strings_Trim_ascii Tryz.lays160s hv116 (by kernel_rfl) s cutset w hs hcs hascii
end Go.Proofs
