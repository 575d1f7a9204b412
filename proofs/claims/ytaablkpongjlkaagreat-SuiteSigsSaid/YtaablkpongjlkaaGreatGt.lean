/- Part Gt of the proof. -/
import Derived.Test.YtaablkpongjlkaaGreatGs
set_option linter.unusedVariables false
set_option linter.unusedSimpArgs false
namespace Go.Sx
open Go Go.Proofs Go.RowKit
set_option maxRecDepth 100000
noncomputable abbrev lSigs:List K:=kListS 5 109 5 6 7 9 10 11 12 13 18 17 15 14 16 28 29
theorem x_lSigs:AllOk Tryz.prog lSigs:=⟨x_lent,x_sigadd,x_sigmul,x_readsigL,x_rreadsig,x_kept,x_sigchk,x_sigmay,x_rsadd,x_rsmul,x_rsbytes,x_same,x_rscal,x_bytes2,x_lbytes,trivial⟩
noncomputable def tSigs:Tree:=tree Tryz.prog lSigs [] 10000 Tryz.f3 (kSigs11 3).ins (kSigs11 3).outs
theorem w_long:tSigs.auto auLongS 21 [] []=true:=by kernel_rfl
theorem w_no:tSigs.auto auNoS 21 [] []=true:=by kernel_rfl
theorem w_t00:tSigs.auto (auOkS true 0 0) 21 [] []=true:=by kernel_rfl
theorem w_t02:tSigs.auto (auOkS true 0 2) 21 [] []=true:=by kernel_rfl
theorem w_t20:tSigs.auto (auOkS true 2 0) 21 [] []=true:=by kernel_rfl
theorem w_t22:tSigs.auto (auOkS true 2 2) 21 [] []=true:=by kernel_rfl
theorem w_t50:tSigs.auto (auOkS true 5 0) 21 [] []=true:=by kernel_rfl
theorem w_t52:tSigs.auto (auOkS true 5 2) 21 [] []=true:=by kernel_rfl
theorem w_f00:tSigs.auto (auOkS false 0 0) 21 [] []=true:=by kernel_rfl
theorem w_f02:tSigs.auto (auOkS false 0 2) 21 [] []=true:=by kernel_rfl
theorem w_f20:tSigs.auto (auOkS false 2 0) 21 [] []=true:=by kernel_rfl
theorem w_f22:tSigs.auto (auOkS false 2 2) 21 [] []=true:=by kernel_rfl
theorem w_f50:tSigs.auto (auOkS false 5 0) 21 [] []=true:=by kernel_rfl
theorem w_f52:tSigs.auto (auOkS false 5 2) 21 [] []=true:=by kernel_rfl
theorem x_sigs11:(kSigs11 3).ok Tryz.prog:=ctr_auto (LA:=[]) hm x_lSigs 10000 Tryz.func3 (by kernel_rfl) rfl (by kernel_rfl) (fun _=>rfl) fun e _ _ =>
 sigs_au (te:=5) (tb:=109) (P:=fun c=>tSigs.auto c 21 [] []=true) w_long w_no (fun z w v hw hv=>by
  rcases hw with rfl | rfl | rfl <;> rcases hv with rfl | rfl <;> cases z
  ·exact w_f00
  ·exact w_t00
  ·exact w_f02
  ·exact w_t02
  ·exact w_f20
  ·exact w_t20
  ·exact w_f22
  ·exact w_t22
  ·exact w_f50
  ·exact w_t50
  ·exact w_f52
  ·exact w_t52) e
end Go.Sx
