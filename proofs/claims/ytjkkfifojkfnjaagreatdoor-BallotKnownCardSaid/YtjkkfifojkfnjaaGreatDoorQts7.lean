/- Part Qts7 of the proof. -/
import Derived.Test.YtjkkfifojkfnjaaGreatDoorQt39
set_option linter.unusedVariables false
set_option linter.unusedSimpArgs false
namespace Go.Sx
open Go Go.Proofs Go.RowKit
set_option maxRecDepth 10000000
noncomputable def in7:List Cx.CC:=[.fl (.agg [.int .i64 1,.int .u64 0,.int .u64 0,.int .u64 0,.int .u64 0,.int .u64 0,.int .u64 0,.int .u64 0,.int .u64 0,.int .u64 0,.int .u64 0,.int .u64 0,.int .u64 0,.bool false,.int .u64 422498,.int .u64 773562,.bool false]),.fl (.agg [.int .i64 1,.int .i64 0,.int .i64 1,.int .u8 227,.int .u8 176,.int .u8 196,.int .u8 66,.int .u8 152,.int .u8 252,.int .u8 28,.int .u8 20,.int .u8 154,.int .u8 251,.int .u8 244,.int .u8 200,.int .u8 153,.int .u8 111,.int .u8 185,.int .u8 36,.int .u8 39,.int .u8 174,.int .u8 65,.int .u8 228,.int .u8 100,.int .u8 155,.int .u8 147,.int .u8 76,.int .u8 164,.int .u8 149,.int .u8 153,.int .u8 27,.int .u8 120,.int .u8 82,.int .u8 184,.int .u8 85,.int .i64 1,.int .i64 1,.int .u64 0,.int .u64 0,.int .u64 0,.int .u64 0,.int .u64 0,.int .u64 0,.int .u64 0,.int .u64 0,.int .u64 0,.int .u64 0,.int .u64 0,.int .u64 0,.bool false,.int .u64 184946,.int .u64 272717,.bool false,.int .u64 13896,.int .u64 0,.int .u64 0,.int .u64 0,.int .u64 0,.int .u64 0])]
noncomputable def out7:List Cx.V:=[.one (.bool true)]
theorem sr7:Cx.subRuns Tryz.prog (Cx.askL ors) 1000000 Tryz.f34 (bodyOf Tryz.f34) 0 Sha.K0 in7 out7=true:=by kernel_rfl
noncomputable def sb7:Cx.Sub Tryz.prog 0 Sha.K0 where
 f:=34
 ins:=in7
 out:=out7
 ok:=⟨_,_,_,_,Tryz.func34,bodyIs (by kernel_rfl),orsOk2,sr7⟩
end Go.Sx
