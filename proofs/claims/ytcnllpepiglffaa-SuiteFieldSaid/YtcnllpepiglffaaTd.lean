/- Part Td of the proof. -/
import Derived.Test.YtcnllpepiglffaaTc
namespace Go.Sx
open Go Go.Proofs Go.RowKit
set_option maxRecDepth 100000
set_option linter.unusedVariables false
theorem t_field11 : tree Try.prog (TField (fun i => [32, 9, 72, 12, 10, 11, 14, 34].getD i 0)) [] 10000 Try.f5 (kFieldLaw 5).ins (kFieldLaw 5).outs = tField11 := by kernel_rfl
theorem x_field11 : (kFieldLaw 5).ok Try.prog := ctr_says (LA := []) (T := TField (fun i => [32, 9, 72, 12, 10, 11, 14, 34].getD i 0)) hm ⟨x_awake, x_sorder, x_divide, x_smul, x_sadd, x_ssub, x_sinv, x_of, trivial⟩ 10000 Try.func5 (by kernel_rfl) rfl (by kernel_rfl) (t := tField11) t_field11 (by kernel_rfl) fun e hk hp => law_field11 fermatAll (fun i => [32, 9, 72, 12, 10, 11, 14, 34].getD i 0) 5 e
end Go.Sx
