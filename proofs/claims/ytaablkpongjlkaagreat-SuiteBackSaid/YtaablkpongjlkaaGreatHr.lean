/- Part Hr of the proof. -/
import Derived.Test.YtaablkpongjlkaaGreatHq
set_option linter.unusedVariables false
set_option linter.unusedSimpArgs false
namespace Go.Sx
open Go Go.Proofs Go.RowKit
set_option maxRecDepth 100000
noncomputable abbrev lBack:List K:=kListB 5 109 19 20 55 29 22 12 28 9
theorem x_lBack:AllOk Tryz.prog lBack:=⟨x_awake,x_keychk,x_bytes1,x_lbytes,x_readkey,x_sigchk,x_bytes2,x_readsig,trivial⟩
noncomputable def tBack11:Tree:=tree Tryz.prog lBack [] 10000 Tryz.f4 (kBack11 4).ins (kBack11 4).outs
theorem w_nn:tBack11.auto (auB none none) 16 [] []=true:=by kernel_rfl
theorem w_nt:tBack11.auto (auB none (some true)) 16 [] []=true:=by kernel_rfl
theorem w_nf:tBack11.auto (auB none (some false)) 16 [] []=true:=by kernel_rfl
theorem w_tn:tBack11.auto (auB (some true) none) 16 [] []=true:=by kernel_rfl
theorem w_tt:tBack11.auto (auB (some true) (some true)) 16 [] []=true:=by kernel_rfl
theorem w_tf:tBack11.auto (auB (some true) (some false)) 16 [] []=true:=by kernel_rfl
theorem w_fn:tBack11.auto (auB (some false) none) 16 [] []=true:=by kernel_rfl
theorem w_ft:tBack11.auto (auB (some false) (some true)) 16 [] []=true:=by kernel_rfl
theorem w_ff:tBack11.auto (auB (some false) (some false)) 16 [] []=true:=by kernel_rfl
theorem x_back11:(kBack11 4).ok Tryz.prog:=ctr_auto (LA:=[]) hm x_lBack 10000 Tryz.func4 (by kernel_rfl) rfl (by kernel_rfl) (fun _=>rfl) fun e hk _ =>
 back_au (te:=5) (tb:=109) (P:=fun c=>tBack11.auto c 16 [] []=true) (fun k s=>by
  match k,s with
  | none,none=>exact w_nn
  | none,some true=>exact w_nt
  | none,some false=>exact w_nf
  | some true,none=>exact w_tn
  | some true,some true=>exact w_tt
  | some true,some false=>exact w_tf
  | some false,none=>exact w_fn
  | some false,some true=>exact w_ft
  | some false,some false=>exact w_ff) e hk
end Go.Sx
