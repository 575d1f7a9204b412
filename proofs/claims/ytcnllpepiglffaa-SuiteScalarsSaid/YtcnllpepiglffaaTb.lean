/- Part Tb of the proof. -/
import Derived.Test.YtcnllpepiglffaaTa
namespace Go.Sx
open Go Go.Proofs Go.RowKit
set_option maxRecDepth 100000
set_option linter.unusedVariables false
theorem t_scal : tree Try.prog (TScal (fun i => [9, 10, 11, 12, 13, 14, 16, 17, 20, 21, 22, 18, 19, 15, 8].getD i 0)) [] 10000 Try.f3 (kScal 3).ins (kScal 3).outs = tScal := by kernel_rfl
theorem x_scal : (kScal 3).ok Try.prog := ctr_says (LA := []) (T := TScal (fun i => [9, 10, 11, 12, 13, 14, 16, 17, 20, 21, 22, 18, 19, 15, 8].getD i 0)) hm ⟨x_sorder, x_sadd, x_ssub, x_smul, x_sneg, x_sinv, x_rscal, x_rorder, x_r11add, x_r11sub, x_r11mul, x_r11neg, x_r11inv, x_number, x_is, trivial⟩ 10000 Try.func3 (by kernel_rfl) rfl (by kernel_rfl) (t := tScal) t_scal (by kernel_rfl) fun e hk hp => law_scal fermatAll (fun i => [9, 10, 11, 12, 13, 14, 16, 17, 20, 21, 22, 18, 19, 15, 8].getD i 0) 3 e hk
end Go.Sx
