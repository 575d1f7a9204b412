/- Part Qt30 of the proof. -/
import Derived.Test.YtjkkfifojkfnjaaGreatDoorNk
import Derived.Test.YtjkkfifojkfnjaaGreatDoorNj
import Derived.Test.YtjkkfifojkfnjaaGreatDoorProg
set_option linter.unusedVariables false
set_option linter.unusedSimpArgs false
namespace Go.Sx
open Go Go.Proofs Go.RowKit
set_option maxRecDepth 100000
def gl:Gls:=[(0,Sha.K0.map fun z=>.int .u32 (.lit z))]
theorem hm:Tryz.prog.follows .mixedOrders=true:=by kernel_rfl
theorem cy {T:List K} (LA:List Ann) {κ:K} {t:Tree} (hh:∀ e:Nat→Int,kkHas (ikks κ.ins) (seqE e 0 (icount κ.ins))→κ.pre (seqE e 0 (icount κ.ins))→t.says T ⟨fun ys=>ys=κ.sem (seqE e 0 (icount κ.ins)),[]⟩ e) (hT:AllOk Tryz.prog T) {fn:Func} (hf:Tryz.prog.funcs[κ.fn]?=some fn) (hn:(!(fn.name == "runtime.NumGoroutine")&&(!κ.ext&&(κ.ins.all okSh&&wfT (icount κ.ins) t)))=true) (ht:tree Tryz.prog T LA 10000 fn κ.ins κ.outs=t):κ.ok Tryz.prog:=by
 simp only [Bool.and_eq_true,Bool.not_eq_true'] at hn
 exact ctr_says (LA:=LA) hm hT 10000 hf hn.1 hn.2.1 hn.2.2.1 ht hn.2.2.2 hh
theorem cz {T:List K} {κ:K} {t:Tree} (hh:∀ e:Nat→Int,kkHas (ikks κ.ins) (seqE e 0 (icount κ.ins))→κ.pre (seqE e 0 (icount κ.ins))→t.says T ⟨fun ys=>ys=κ.sem (seqE e 0 (icount κ.ins)),[]⟩ e) (hT:AllOk Tryz.prog T) {fn:Func} (hf:Tryz.prog.funcs[κ.fn]?=some fn) (hn:(!(fn.name == "runtime.NumGoroutine")&&(!κ.ext&&(κ.ins.all okSh&&wfT (icount κ.ins) t)))=true) (ht:tree Tryz.prog T [] 10000 fn κ.ins κ.outs=t):κ.ok Tryz.prog:=cy [] hh hT hf hn ht
theorem x_rot:(Sha.kRot 75).ok Tryz.prog:=cz (fun e hk hp=>Sha.law_dright 75 e hp.1 hp.2) trivial Tryz.func75 (by kernel_rfl) (by kernel_rfl)
theorem x_dsum:(kSumQ QW 6).ok Tryz.prog gl:=ctr_says (LA:=[⟨ "digest.go:38",[(.slot 15,[.int .i64]),(.box 4,[.arr .u32 64])],[]⟩,⟨ "digest.go:47",[(.slot 96,[.int .i64]),(.box 8,[.arr .u32 8])],[]⟩,⟨ "digest.go:77",[(.slot 11,[.int .i64]),(.box 0,[.arr .u32 8,.arr .u8 64,.int .i64,.bool])],[]⟩,⟨ "digest.go:95",[],[{slot:=5,k:=.int .u8,elem:=5 }]⟩,⟨ "digest.go:101",[(.view 5,[.int .i64]),(.box 4,[.arr .u32 8])],[]⟩]) (T:=[Sha.kRot 75]) (gls:=gl) hm ⟨x_rot.up,trivial⟩ 10000 Tryz.func6 (by kernel_rfl) rfl (by kernel_rfl) (t:=Sha.tDSum) (by kernel_rfl) (by kernel_rfl) fun e hk hp=>dsum_QW 75 6 e hp
theorem x_wread:(kWRead 80).ok Tryz.prog:=cy [⟨ "words.go:140",[(.slot 14,[.int .i64]),(.box 4,[.num])],[]⟩] (fun e hk hp=>law_wRead 80 e hk) trivial Tryz.func80 (by kernel_rfl) (by kernel_rfl)
theorem x_len64:(kLen64 108).ok Tryz.prog:=cz (fun e hk hp=>law_len64 108 e hk) trivial Tryz.func108 (by kernel_rfl) (by kernel_rfl)
theorem x_wlen:(kWLen 117).ok Tryz.prog:=cz (fun e hk hp=>law_wLen 108 117 e hk) ⟨x_len64,trivial⟩ Tryz.func117 (by kernel_rfl) (by kernel_rfl)
theorem x_wcmp:(kWCmp 51).ok Tryz.prog:=cz (fun e hk hp=>law_wCmp 51 e hk) trivial Tryz.func51 (by kernel_rfl) (by kernel_rfl)
theorem x_sub64:(kSub64 151).ok Tryz.prog:=ok_sub64 Tryz.func151 (by kernel_rfl) (by kernel_rfl) (by kernel_rfl) (by kernel_rfl)
theorem x_wsub:(kWSub 123).ok Tryz.prog:=cz (fun e hk hp=>law_wSub 151 123 e hk) ⟨x_sub64,trivial⟩ Tryz.func123 (by kernel_rfl) (by kernel_rfl)
theorem x_less:(kLess 91).ok Tryz.prog:=cz (fun e hk hp=>law_less 123 91 e hk) ⟨x_wsub,trivial⟩ Tryz.func91 (by kernel_rfl) (by kernel_rfl)
theorem x_of:(kOf 29).ok Tryz.prog:=cz (fun e hk hp=>law_of 29 e hk) trivial Tryz.func29 (by kernel_rfl) (by kernel_rfl)
theorem x_new:(kNew 81 166).ok Tryz.prog:=cy [⟨ "modulus.go:30",[(.box 6,[.num]),(.slot 43,[.int .i64])],[]⟩] (fun e hk hp=>law_new 117 51 91 29 81 166 e hk hp) ⟨x_wlen,x_wcmp,x_less,x_of,trivial⟩ Tryz.func81 (by kernel_rfl) (by kernel_rfl)
theorem x_add64:(kAdd64 120).ok Tryz.prog:=ok_add64 Tryz.func120 (by kernel_rfl) (by kernel_rfl) (by kernel_rfl) (by kernel_rfl)
theorem x_mul64:(kMul64 119).ok Tryz.prog:=cz (fun e hk hp=>law_mul64 119 e hk) trivial Tryz.func119 (by kernel_rfl) (by kernel_rfl)
theorem x_mont:(kMont 87).ok Tryz.prog:=cz (fun e hk hp=>law_mont 120 119 91 87 e hk hp) ⟨x_add64,x_mul64,x_less,trivial⟩ Tryz.func87 (by kernel_rfl) (by kernel_rfl)
theorem x_reduce:(kReduce 90).ok Tryz.prog:=cz (fun e hk hp=>law_reduce 51 87 29 90 e hk hp) ⟨x_wcmp,x_mont,x_of,trivial⟩ Tryz.func90 (by kernel_rfl) (by kernel_rfl)
theorem x_wadd:(kWAdd 89).ok Tryz.prog:=cz (fun e hk hp=>law_wAdd 120 89 e hk) ⟨x_add64,trivial⟩ Tryz.func89 (by kernel_rfl) (by kernel_rfl)
theorem x_madd:(kMAdd 62).ok Tryz.prog:=cz (fun e hk hp=>law_mAdd 90 89 91 62 e hk hp) ⟨x_reduce,x_wadd,x_less,trivial⟩ Tryz.func62 (by kernel_rfl) (by kernel_rfl)
theorem x_mwide:(kMWide 82).ok Tryz.prog:=cz (fun e hk hp=>law_mWide 62 87 82 e hp) ⟨x_madd,x_mont,trivial⟩ Tryz.func82 (by kernel_rfl) (by kernel_rfl)
theorem x_wide:(kWide QW 55).ok Tryz.prog gl:=ctr_says (LA:=[]) (T:=[kSumQ QW 6,kWRead 80,kNew 81 166,kMWide 82]) (gls:=gl) hm ⟨x_dsum,x_wread.up,x_new.up,x_mwide.up,trivial⟩ 10000 Tryz.func55 (by kernel_rfl) rfl (by kernel_rfl) (t:=tWide) (by kernel_rfl) (by kernel_rfl) fun e hk hp=>law_wide QW 166 6 80 81 82 55 e hp
theorem x_div64:(kDiv64 165).ok Tryz.prog:=cy [⟨ "bits.go:547",[(.slot 15,[.int .u64]),(.slot 16,[.int .u64])],[]⟩,⟨ "bits.go:559",[(.slot 18,[.int .u64]),(.slot 16,[.int .u64])],[]⟩] (fun e hk hp=>law_div64 108 165 e hk hp) ⟨x_len64,trivial⟩ Tryz.func165 (by kernel_rfl) (by kernel_rfl)
theorem x_rem64:(kRem64 161).ok Tryz.prog:=cz (fun e hk hp=>law_rem64 165 161 e hk hp) ⟨x_div64,trivial⟩ Tryz.func161 (by kernel_rfl) (by kernel_rfl)
theorem x_lmul:(kLMul 143).ok Tryz.prog:=cz (fun e hk hp=>law_lMul 119 161 143 e hp) ⟨x_mul64,x_rem64,trivial⟩ Tryz.func143 (by kernel_rfl) (by kernel_rfl)
theorem x_ladd:(kLAdd 162).ok Tryz.prog:=cz (fun e hk hp=>law_lAdd 162 e hk hp) trivial Tryz.func162 (by kernel_rfl) (by kernel_rfl)
theorem x_lright:(kLRight 144).ok Tryz.prog:=cz (fun e hk hp=>law_lRight 143 162 144 e hp) ⟨x_lmul,x_ladd,trivial⟩ Tryz.func144 (by kernel_rfl) (by kernel_rfl)
theorem x_lon:(kLOn 112).ok Tryz.prog:=cz (fun e hk hp=>law_lOn 143 144 112 e hp) ⟨x_lmul,x_lright,trivial⟩ Tryz.func112 (by kernel_rfl) (by kernel_rfl)
theorem x_lsub:(kLSub 146).ok Tryz.prog:=cz (fun e hk hp=>law_lSub 146 e hk hp) trivial Tryz.func146 (by kernel_rfl) (by kernel_rfl)
theorem x_lpow:(kLPow 166).ok Tryz.prog:=cy [⟨ "little.go:37",[(.slot 8,[.int .i64]),(.slot 7,[.int .u64])],[]⟩] (fun e hk hp=>law_lPow 108 143 166 e hk hp) ⟨x_len64,x_lmul,trivial⟩ Tryz.func166 (by kernel_rfl) (by kernel_rfl)
theorem x_linv:(kLInv 163).ok Tryz.prog:=cz (fun e hk hp=>law_lInv 166 163 e hk hp) ⟨x_lpow,trivial⟩ Tryz.func163 (by kernel_rfl) (by kernel_rfl)
theorem x_lslope:(kLSlope 145).ok Tryz.prog:=cz (fun e hk hp=>law_lSlope 146 163 143 162 145 e hk hp) ⟨x_lsub,x_linv,x_lmul,x_ladd,trivial⟩ Tryz.func145 (by kernel_rfl) (by kernel_rfl)
theorem x_lsum:(kLSum 113).ok Tryz.prog:=cz (fun e hk hp=>law_lSum 145 143 146 113 e hk hp) ⟨x_lslope,x_lmul,x_lsub,trivial⟩ Tryz.func113 (by kernel_rfl) (by kernel_rfl)
theorem x_ltimes:(kLTimes 73).ok Tryz.prog:=cy [⟨ "little.go:87",[(.slot 8,[.int .i64]),(.box 7,[.int .u64,.int .u64,.bool])],[]⟩] (fun e hk hp=>law_lTimes 108 113 73 e hk hp) ⟨x_len64,x_lsum,trivial⟩ Tryz.func73 (by kernel_rfl) (by kernel_rfl)
theorem x_lin:(kLIn 98).ok Tryz.prog:=cz (fun e hk hp=>law_lIn 112 73 98 e hk hp) ⟨x_lon,x_ltimes,trivial⟩ Tryz.func98 (by kernel_rfl) (by kernel_rfl)
theorem x_lof:(kLOf 70).ok Tryz.prog:=cz (fun e hk hp=>law_lOf 70 e) trivial Tryz.func70 (by kernel_rfl) (by kernel_rfl)
theorem x_order:(kOrder 56).ok Tryz.prog:=cz (fun e hk hp=>law_order 56 e hk hp) trivial Tryz.func56 (by kernel_rfl) (by kernel_rfl)
theorem x_sorder:(kSOrder 50).ok Tryz.prog:=cz (fun e hk hp=>law_sOrder 56 50 e hk) ⟨x_order,trivial⟩ Tryz.func50 (by kernel_rfl) (by kernel_rfl)
theorem x_sadd:(kS2 32 (·+ ·)).ok Tryz.prog:=cz (fun e hk hp=>law_s2 (X:=kMAdd 62) 56 51 81 32 166 (fun _ _ _ _ _ h=>h) (fun _ _ _ _ _=>rfl) e) ⟨x_order,x_wcmp,x_new,x_madd,trivial⟩ Tryz.func32 (by kernel_rfl) (by kernel_rfl)
theorem x_mmul:(kMMul 59).ok Tryz.prog:=cz (fun e hk hp=>law_mMul 87 59 e hk hp) ⟨x_mont,trivial⟩ Tryz.func59 (by kernel_rfl) (by kernel_rfl)
theorem x_smul:(kS2 30 (·* ·)).ok Tryz.prog:=cz (fun e hk hp=>law_s2 (X:=kMMul 59) 56 51 81 30 166 (fun _ _ _ _ _ h=>h) (fun _ _ _ _ _=>rfl) e) ⟨x_order,x_wcmp,x_new,x_mmul,trivial⟩ Tryz.func30 (by kernel_rfl) (by kernel_rfl)
theorem x_lmul2:(kLMul2 44).ok Tryz.prog:=cz (fun e hk hp=>law_lMul2 70 112 73 44 e hp) ⟨x_lof,x_lon,x_ltimes,trivial⟩ Tryz.func44 (by kernel_rfl) (by kernel_rfl)
end Go.Sx
