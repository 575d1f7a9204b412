/- Part Gr of the proof. -/
import Derived.Test.YtlddchekkjjleaaGreatGq
import Derived.Test.YtlddchekkjjleaaGreatGo
set_option linter.unusedVariables false
set_option linter.unusedSimpArgs false
namespace Go.Sx
open Go Go.Proofs Go.RowKit
set_option maxRecDepth 100000
set_option linter.unusedVariables false
noncomputable abbrev lKeys:List K:=kList 5 188 9 10 11 12 13 15 16 17 18 19 20 21 22 24 23 62 63
theorem x_lKeys:AllOk Tryz.prog lKeys:=⟨x_lent,x_wrong,x_kadd,x_kmul,x_kneg,x_readkeyL,x_rreadkey,x_kept,x_keychk,x_keymay,x_rkadd,x_rkmul,x_rkneg,x_rkbytes,x_same,x_bytes1,x_lbytes,trivial⟩
noncomputable def tKeys:Tree:=tree Tryz.prog lKeys [] 10000 Tryz.f3 (kKeys11 3).ins (kKeys11 3).outs
theorem w_long:tKeys.auto auLong 17 [] []=true:=by kernel_rfl
theorem w_no:tKeys.auto auNo 17 [] []=true:=by kernel_rfl
theorem w_t00:tKeys.auto (auOk true 0 0) 17 [] []=true:=by kernel_rfl
theorem w_t02:tKeys.auto (auOk true 0 2) 17 [] []=true:=by kernel_rfl
theorem w_t20:tKeys.auto (auOk true 2 0) 17 [] []=true:=by kernel_rfl
theorem w_t22:tKeys.auto (auOk true 2 2) 17 [] []=true:=by kernel_rfl
theorem w_t50:tKeys.auto (auOk true 5 0) 17 [] []=true:=by kernel_rfl
theorem w_t52:tKeys.auto (auOk true 5 2) 17 [] []=true:=by kernel_rfl
theorem w_f00:tKeys.auto (auOk false 0 0) 17 [] []=true:=by kernel_rfl
theorem w_f02:tKeys.auto (auOk false 0 2) 17 [] []=true:=by kernel_rfl
theorem w_f20:tKeys.auto (auOk false 2 0) 17 [] []=true:=by kernel_rfl
theorem w_f22:tKeys.auto (auOk false 2 2) 17 [] []=true:=by kernel_rfl
theorem w_f50:tKeys.auto (auOk false 5 0) 17 [] []=true:=by kernel_rfl
theorem w_f52:tKeys.auto (auOk false 5 2) 17 [] []=true:=by kernel_rfl
theorem x_keys11:(kKeys11 3).ok Tryz.prog:=ctr_auto (LA:=[]) hm x_lKeys 10000 Tryz.func3 (by kernel_rfl) rfl (by kernel_rfl) (fun _=>rfl) fun e _ _ =>
 keys_au (te:=5) (tb:=188) (P:=fun c=>tKeys.auto c 17 [] []=true) w_long w_no (fun z w v hw hv=>by
  rcases hw with rfl | rfl | rfl <;> rcases hv with rfl | rfl <;> cases z
  ·exact w_f00
  ·exact w_t00
  ·exact w_f02
  ·exact w_t02
  ·exact w_f20
  ·exact w_t20
  ·exact w_f22
  ·exact w_t22
  ·exact w_f50
  ·exact w_t50
  ·exact w_f52
  ·exact w_t52) e
end Go.Sx
