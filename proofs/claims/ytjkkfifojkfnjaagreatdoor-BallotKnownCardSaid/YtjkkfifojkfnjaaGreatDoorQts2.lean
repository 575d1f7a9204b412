/- Part Qts2 of the proof. -/
import Derived.Test.YtjkkfifojkfnjaaGreatDoorQt39
set_option linter.unusedVariables false
set_option linter.unusedSimpArgs false
namespace Go.Sx
open Go Go.Proofs Go.RowKit
set_option maxRecDepth 10000000
noncomputable def in2:List Cx.CC:=[.fl (.one (.int .i64 1)),.fl (.agg [.int .u64 4,.int .u64 0,.int .u64 0,.int .u64 0,.int .u64 0,.int .u64 0]),.fl (.agg [.int .i64 1,.int .i64 0,.int .i64 1,.int .u8 186,.int .u8 120,.int .u8 22,.int .u8 191,.int .u8 143,.int .u8 1,.int .u8 207,.int .u8 234,.int .u8 65,.int .u8 65,.int .u8 64,.int .u8 222,.int .u8 93,.int .u8 174,.int .u8 34,.int .u8 35,.int .u8 176,.int .u8 3,.int .u8 97,.int .u8 163,.int .u8 150,.int .u8 23,.int .u8 122,.int .u8 156,.int .u8 180,.int .u8 16,.int .u8 255,.int .u8 97,.int .u8 242,.int .u8 0,.int .u8 21,.int .u8 173,.int .i64 3,.int .i64 0,.int .u64 0,.int .u64 0,.int .u64 0,.int .u64 0,.int .u64 0,.int .u64 0,.int .u64 0,.int .u64 0,.int .u64 0,.int .u64 0,.int .u64 0,.int .u64 0,.bool false,.int .u64 0,.int .u64 0,.bool false,.int .u64 0,.int .u64 0,.int .u64 0,.int .u64 0,.int .u64 0,.int .u64 0])]
noncomputable def out2:List Cx.V:=[.agg [.int .i64 1,.int .i64 0,.int .i64 1,.int .u8 186,.int .u8 120,.int .u8 22,.int .u8 191,.int .u8 143,.int .u8 1,.int .u8 207,.int .u8 234,.int .u8 65,.int .u8 65,.int .u8 64,.int .u8 222,.int .u8 93,.int .u8 174,.int .u8 34,.int .u8 35,.int .u8 176,.int .u8 3,.int .u8 97,.int .u8 163,.int .u8 150,.int .u8 23,.int .u8 122,.int .u8 156,.int .u8 180,.int .u8 16,.int .u8 255,.int .u8 97,.int .u8 242,.int .u8 0,.int .u8 21,.int .u8 173,.int .i64 3,.int .i64 1,.int .u64 0,.int .u64 0,.int .u64 0,.int .u64 0,.int .u64 0,.int .u64 0,.int .u64 0,.int .u64 0,.int .u64 0,.int .u64 0,.int .u64 0,.int .u64 0,.bool false,.int .u64 214283,.int .u64 30096,.bool false,.int .u64 29835,.int .u64 0,.int .u64 0,.int .u64 0,.int .u64 0,.int .u64 0],.one (.int .i64 0)]
theorem sr2:Cx.subRuns Tryz.prog (Cx.askL ors) 1000000 Tryz.f7 (bodyOf Tryz.f7) 0 Sha.K0 in2 out2=true:=by kernel_rfl
noncomputable def sb2:Cx.Sub Tryz.prog 0 Sha.K0 where
 f:=7
 ins:=in2
 out:=out2
 ok:=⟨_,_,_,_,Tryz.func7,bodyIs (by kernel_rfl),orsOk2,sr2⟩
end Go.Sx
