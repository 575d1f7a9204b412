/- Part Qts8 of the proof. -/
import Derived.Test.YtjkkfifojkfnjaaGreatDoorQt39
set_option linter.unusedVariables false
set_option linter.unusedSimpArgs false
namespace Go.Sx
open Go Go.Proofs Go.RowKit
set_option maxRecDepth 10000000
noncomputable def in8:List Cx.CC:=[.fl (.agg [.int .i64 1,.int .u64 0,.int .u64 0,.int .u64 0,.int .u64 0,.int .u64 0,.int .u64 0,.int .u64 0,.int .u64 0,.int .u64 0,.int .u64 0,.int .u64 0,.int .u64 0,.bool false,.int .u64 261290,.int .u64 279259,.bool false]),.fl (.agg [.int .i64 1,.int .i64 0,.int .i64 1,.int .u8 186,.int .u8 120,.int .u8 22,.int .u8 191,.int .u8 143,.int .u8 1,.int .u8 207,.int .u8 234,.int .u8 65,.int .u8 65,.int .u8 64,.int .u8 222,.int .u8 93,.int .u8 174,.int .u8 34,.int .u8 35,.int .u8 176,.int .u8 3,.int .u8 97,.int .u8 163,.int .u8 150,.int .u8 23,.int .u8 122,.int .u8 156,.int .u8 180,.int .u8 16,.int .u8 255,.int .u8 97,.int .u8 242,.int .u8 0,.int .u8 21,.int .u8 173,.int .i64 1,.int .i64 1,.int .u64 0,.int .u64 0,.int .u64 0,.int .u64 0,.int .u64 0,.int .u64 0,.int .u64 0,.int .u64 0,.int .u64 0,.int .u64 0,.int .u64 0,.int .u64 0,.bool false,.int .u64 391818,.int .u64 126961,.bool false,.int .u64 45127,.int .u64 0,.int .u64 0,.int .u64 0,.int .u64 0,.int .u64 0])]
noncomputable def out8:List Cx.V:=[.one (.bool false)]
theorem sr8:Cx.subRuns Tryz.prog (Cx.askL ors) 1000000 Tryz.f34 (bodyOf Tryz.f34) 0 Sha.K0 in8 out8=true:=by kernel_rfl
noncomputable def sb8:Cx.Sub Tryz.prog 0 Sha.K0 where
 f:=34
 ins:=in8
 out:=out8
 ok:=⟨_,_,_,_,Tryz.func34,bodyIs (by kernel_rfl),orsOk2,sr8⟩
end Go.Sx
