/- Part Nr of the proof. -/
import Derived.Test.YteghhlclghbleaaGreatDoorNq
import Derived.Test.YteghhlclghbleaaGreatDoorNo
set_option linter.unusedVariables false
set_option linter.unusedSimpArgs false
namespace Go.Sx
open Go Go.Proofs Go.RowKit
set_option maxRecDepth 10000000
noncomputable def ors:List Or1:=[orWCmp 16,orOf 5,orSOrder 15,orBHash 18,o_verify,o_keym,o_sigm,o_keyc,o_sigc,o_sgen,orLSum 74,orLIn 85,orLMul 118,orLAdd 147,orLSub 117,orLOf 89,orS2 207 (·* ·),orS2 208 (·- ·),orSInv 209]
theorem orsOk:Cx.AllOr Tryz.prog gl ors:=⟨x_wcmp.up,x_of.up,x_sorder.up,x_bhash,x_verify.up,x_keym.up,x_sigm.up,x_keyc.up,x_sigc.up,x_sgen.up,x_lsum.up,x_lin.up,x_lmul.up,x_ladd.up,x_lsub.up,x_lof.up,x_smul.up,x_ssub.up,x_sinv.up,trivial⟩
def bodyOf (f:Func):Code:=match f.body with | some c=>c | none=>.skip
theorem ran:Cx.runs Tryz.prog (Cx.askL ors) 1000000 Tryz.f3 (bodyOf Tryz.f3) 0 Sha.K0 []=true:=by kernel_rfl
theorem walkKnown (w:World) (hg:GlobOk gl w):Calls Tryz.prog 3 #[] w fun e w'=>e=.returned (.bool true)/\Below w.heap.size w w' :=
 Cx.known_ok (g:=0) (tl:=Sha.K0) hm orsOk Tryz.func3 (c:=bodyOf Tryz.f3) rfl 1000000 ran (by decide) w hg [] fun _=>trivial
end Go.Sx
