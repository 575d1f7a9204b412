/- Part Qt39 of the proof. -/
import Derived.Test.YtjkkfifojkfnjaaGreatDoorQt31
import Derived.Test.YtjkkfifojkfnjaaGreatDoorQt38
import Derived.Test.YtjkkfifojkfnjaaGreatDoorNo
import Derived.Test.YtjkkfifojkfnjaaGreatDoorQt34
set_option linter.unusedVariables false
set_option linter.unusedSimpArgs false
namespace Go.Sx
open Go Go.Proofs Go.RowKit
set_option maxRecDepth 10000000
noncomputable def ors:List Or1:=[o_wide,o_sha,o_keyc,o_keym,o_sgen,orWCmp 51,orOf 29,orSOrder 50,orOrder 56,orLSum 113,orLIn 98,orLMul 143,orLAdd 162,orLOf 70,orS2 30 (·* ·),orS2 32 (·+ ·)]
theorem orsOk:Cx.AllOr Tryz.prog gl ors:=⟨x_wide,x_sha,x_keyc.up,x_keym.up,x_sgen.up,x_wcmp.up,x_of.up,x_sorder.up,x_order.up,x_lsum.up,x_lin.up,x_lmul.up,x_ladd.up,x_lof.up,x_smul.up,x_sadd.up,trivial⟩
def bodyOf (f:Func):Code:=match f.body with | some c=>c | none=>.skip
theorem orsOk2:Cx.OrOk Tryz.prog (Cx.tabG 0 Sha.K0) (Cx.askL ors):=Cx.ask_ok orsOk
theorem bodyIs {f:Func} (h:f.body.isSome=true):f.body=some (bodyOf f):=by
 unfold bodyOf
 cases hb:f.body with
 | none=>rw [hb] at h;cases h
 | some c=>rfl
end Go.Sx
