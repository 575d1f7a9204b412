/- Part Qts3 of the proof. -/
import Derived.Test.YtjkkfifojkfnjaaGreatDoorQt39
set_option linter.unusedVariables false
set_option linter.unusedSimpArgs false
namespace Go.Sx
open Go Go.Proofs Go.RowKit
set_option maxRecDepth 10000000
noncomputable def in3:List Cx.CC:=[.fl (.one (.int .i64 1)),.fl (.agg [.int .u64 2,.int .u64 0,.int .u64 0,.int .u64 0,.int .u64 0,.int .u64 0]),.fl (.agg [.int .i64 1,.int .i64 0,.int .i64 1,.int .u8 227,.int .u8 176,.int .u8 196,.int .u8 66,.int .u8 152,.int .u8 252,.int .u8 28,.int .u8 20,.int .u8 154,.int .u8 251,.int .u8 244,.int .u8 200,.int .u8 153,.int .u8 111,.int .u8 185,.int .u8 36,.int .u8 39,.int .u8 174,.int .u8 65,.int .u8 228,.int .u8 100,.int .u8 155,.int .u8 147,.int .u8 76,.int .u8 164,.int .u8 149,.int .u8 153,.int .u8 27,.int .u8 120,.int .u8 82,.int .u8 184,.int .u8 85,.int .i64 1,.int .i64 0,.int .u64 0,.int .u64 0,.int .u64 0,.int .u64 0,.int .u64 0,.int .u64 0,.int .u64 0,.int .u64 0,.int .u64 0,.int .u64 0,.int .u64 0,.int .u64 0,.bool false,.int .u64 0,.int .u64 0,.bool false,.int .u64 0,.int .u64 0,.int .u64 0,.int .u64 0,.int .u64 0,.int .u64 0])]
noncomputable def out3:List Cx.V:=[.agg [.int .i64 1,.int .i64 0,.int .i64 1,.int .u8 227,.int .u8 176,.int .u8 196,.int .u8 66,.int .u8 152,.int .u8 252,.int .u8 28,.int .u8 20,.int .u8 154,.int .u8 251,.int .u8 244,.int .u8 200,.int .u8 153,.int .u8 111,.int .u8 185,.int .u8 36,.int .u8 39,.int .u8 174,.int .u8 65,.int .u8 228,.int .u8 100,.int .u8 155,.int .u8 147,.int .u8 76,.int .u8 164,.int .u8 149,.int .u8 153,.int .u8 27,.int .u8 120,.int .u8 82,.int .u8 184,.int .u8 85,.int .i64 1,.int .i64 1,.int .u64 0,.int .u64 0,.int .u64 0,.int .u64 0,.int .u64 0,.int .u64 0,.int .u64 0,.int .u64 0,.int .u64 0,.int .u64 0,.int .u64 0,.int .u64 0,.bool false,.int .u64 184946,.int .u64 272717,.bool false,.int .u64 13896,.int .u64 0,.int .u64 0,.int .u64 0,.int .u64 0,.int .u64 0],.one (.int .i64 0)]
theorem sr3:Cx.subRuns Tryz.prog (Cx.askL ors) 1000000 Tryz.f7 (bodyOf Tryz.f7) 0 Sha.K0 in3 out3=true:=by kernel_rfl
noncomputable def sb3:Cx.Sub Tryz.prog 0 Sha.K0 where
 f:=7
 ins:=in3
 out:=out3
 ok:=⟨_,_,_,_,Tryz.func7,bodyIs (by kernel_rfl),orsOk2,sr3⟩
end Go.Sx
