/- Part Np of the proof. -/
import Derived.Test.YteghhlclghbleaaGreatDoorNk
import Derived.Test.YteghhlclghbleaaGreatDoorNj
import Derived.Test.YteghhlclghbleaaGreatDoorProg
set_option linter.unusedVariables false
set_option linter.unusedSimpArgs false
namespace Go.Sx
open Go Go.Proofs Go.RowKit
set_option maxRecDepth 100000
def gl:Gls:=[(0,Sha.K0.map fun z=>.int .u32 (.lit z))]
theorem hm:Tryz.prog.follows .mixedOrders=true:=by kernel_rfl
theorem cy {T:List K} (LA:List Ann) {κ:K} {t:Tree} (hh:∀ e:Nat→Int,kkHas (ikks κ.ins) (seqE e 0 (icount κ.ins))→κ.pre (seqE e 0 (icount κ.ins))→t.says T ⟨fun ys=>ys=κ.sem (seqE e 0 (icount κ.ins)),[]⟩ e) (hT:AllOk Tryz.prog T) {fn:Func} (hf:Tryz.prog.funcs[κ.fn]?=some fn) (hn:(!(fn.name == "runtime.NumGoroutine")&&(!κ.ext&&(κ.ins.all okSh&&wfT (icount κ.ins) t)))=true) (ht:tree Tryz.prog T LA 10000 fn κ.ins κ.outs=t):κ.ok Tryz.prog:=by
 simp only [Bool.and_eq_true,Bool.not_eq_true'] at hn
 exact ctr_says (LA:=LA) hm hT 10000 hf hn.1 hn.2.1 hn.2.2.1 ht hn.2.2.2 hh
theorem cz {T:List K} {κ:K} {t:Tree} (hh:∀ e:Nat→Int,kkHas (ikks κ.ins) (seqE e 0 (icount κ.ins))→κ.pre (seqE e 0 (icount κ.ins))→t.says T ⟨fun ys=>ys=κ.sem (seqE e 0 (icount κ.ins)),[]⟩ e) (hT:AllOk Tryz.prog T) {fn:Func} (hf:Tryz.prog.funcs[κ.fn]?=some fn) (hn:(!(fn.name == "runtime.NumGoroutine")&&(!κ.ext&&(κ.ins.all okSh&&wfT (icount κ.ins) t)))=true) (ht:tree Tryz.prog T [] 10000 fn κ.ins κ.outs=t):κ.ok Tryz.prog:=cy [] hh hT hf hn ht
theorem x_bits32:(kBits32 5 171).ok Tryz.prog:=cz (fun e hk hp=>law_bits32 5 171 e hp) trivial Tryz.func171 (by kernel_rfl) (by kernel_rfl)
theorem x_joined:(kJoined 5 100).ok Tryz.prog:=cy [⟨ "suite.go:131",[(.slot 8,[.int .i64])],[{slot:=3,k:=.int .u8,elem:=5 }]⟩] (fun e hk hp=>law_joined 5 171 100 e hp) ⟨x_bits32,trivial⟩ Tryz.func100 (by kernel_rfl) (by kernel_rfl)
theorem x_known:(kIs 32).ok Tryz.prog:=cz (fun e hk hp=>law_known 32 e) trivial Tryz.func32 (by kernel_rfl) (by kernel_rfl)
theorem x_text:(kText 5 63).ok Tryz.prog:=cy [⟨ "suite.go:346",[(.slot 14,[.int .i64]),(.slot 6,[.int .i64])],[]⟩] (fun e hk hp=>law_text 5 100 32 63 e hk hp) ⟨x_joined,x_known,trivial⟩ Tryz.func63 (by kernel_rfl) (by kernel_rfl)
theorem x_mbase:(kMBase 107).ok Tryz.prog:=cz (fun e hk hp=>law_mBase 107 e) trivial Tryz.func107 (by kernel_rfl) (by kernel_rfl)
theorem x_lof:(kLOf 89).ok Tryz.prog:=cz (fun e hk hp=>law_lOf 89 e) trivial Tryz.func89 (by kernel_rfl) (by kernel_rfl)
theorem x_lprime:(kLPrime 108).ok Tryz.prog:=cz (fun e hk hp=>law_lPrime 89 108 e hp) ⟨x_lof,trivial⟩ Tryz.func108 (by kernel_rfl) (by kernel_rfl)
theorem x_of:(kOf 5).ok Tryz.prog:=cz (fun e hk hp=>law_of 5 e hk) trivial Tryz.func5 (by kernel_rfl) (by kernel_rfl)
theorem x_prime:(kPrime 66).ok Tryz.prog:=cz (fun e hk hp=>law_prime 107 108 5 66 e hp) ⟨x_mbase,x_lprime,x_of,trivial⟩ Tryz.func66 (by kernel_rfl) (by kernel_rfl)
theorem x_rot:(Sha.kRot 244).ok Tryz.prog:=cz (fun e hk hp=>Sha.law_dright 244 e hp.1 hp.2) trivial Tryz.func244 (by kernel_rfl) (by kernel_rfl)
theorem x_dsum:(kSumQ QB 103).ok Tryz.prog gl:=ctr_says (LA:=[⟨ "digest.go:38",[(.slot 15,[.int .i64]),(.box 4,[.arr .u32 64])],[]⟩,⟨ "digest.go:47",[(.slot 96,[.int .i64]),(.box 8,[.arr .u32 8])],[]⟩,⟨ "digest.go:77",[(.slot 11,[.int .i64]),(.box 0,[.arr .u32 8,.arr .u8 64,.int .i64,.bool])],[]⟩,⟨ "digest.go:95",[],[{slot:=5,k:=.int .u8,elem:=5 }]⟩,⟨ "digest.go:101",[(.view 5,[.int .i64]),(.box 4,[.arr .u32 8])],[]⟩]) (T:=[Sha.kRot 244]) (gls:=gl) hm ⟨x_rot.up,trivial⟩ 10000 Tryz.func103 (by kernel_rfl) rfl (by kernel_rfl) (t:=tDSum) (by kernel_rfl) (by kernel_rfl) fun e hk hp=>sum_says dsum_B 244 103 hp
theorem x_wread:(kWRead 104).ok Tryz.prog:=cy [⟨ "words.go:140",[(.slot 14,[.int .i64]),(.box 4,[.num])],[]⟩] (fun e hk hp=>law_wRead 104 e hk) trivial Tryz.func104 (by kernel_rfl) (by kernel_rfl)
theorem x_len64:(kLen64 99).ok Tryz.prog:=cz (fun e hk hp=>law_len64 99 e hk) trivial Tryz.func99 (by kernel_rfl) (by kernel_rfl)
theorem x_wlen:(kWLen 135).ok Tryz.prog:=cz (fun e hk hp=>law_wLen 99 135 e hk) ⟨x_len64,trivial⟩ Tryz.func135 (by kernel_rfl) (by kernel_rfl)
theorem x_wcmp:(kWCmp 16).ok Tryz.prog:=cz (fun e hk hp=>law_wCmp 16 e hk) trivial Tryz.func16 (by kernel_rfl) (by kernel_rfl)
theorem x_sub64:(kSub64 190).ok Tryz.prog:=ok_sub64 Tryz.func190 (by kernel_rfl) (by kernel_rfl) (by kernel_rfl) (by kernel_rfl)
theorem x_wsub:(kWSub 219).ok Tryz.prog:=cz (fun e hk hp=>law_wSub 190 219 e hk) ⟨x_sub64,trivial⟩ Tryz.func219 (by kernel_rfl) (by kernel_rfl)
theorem x_less:(kLess 177).ok Tryz.prog:=cz (fun e hk hp=>law_less 219 177 e hk) ⟨x_wsub,trivial⟩ Tryz.func177 (by kernel_rfl) (by kernel_rfl)
theorem x_new:(kNew 105 253).ok Tryz.prog:=cy [⟨ "modulus.go:30",[(.box 6,[.num]),(.slot 43,[.int .i64])],[]⟩] (fun e hk hp=>law_new 135 16 177 5 105 253 e hk hp) ⟨x_wlen,x_wcmp,x_less,x_of,trivial⟩ Tryz.func105 (by kernel_rfl) (by kernel_rfl)
theorem x_add64:(kAdd64 188).ok Tryz.prog:=ok_add64 Tryz.func188 (by kernel_rfl) (by kernel_rfl) (by kernel_rfl) (by kernel_rfl)
theorem x_mul64:(kMul64 186).ok Tryz.prog:=cz (fun e hk hp=>law_mul64 186 e hk) trivial Tryz.func186 (by kernel_rfl) (by kernel_rfl)
theorem x_mont:(kMont 180).ok Tryz.prog:=cz (fun e hk hp=>law_mont 188 186 177 180 e hk hp) ⟨x_add64,x_mul64,x_less,trivial⟩ Tryz.func180 (by kernel_rfl) (by kernel_rfl)
theorem x_reduce:(kReduce 221).ok Tryz.prog:=cz (fun e hk hp=>law_reduce 16 180 5 221 e hk hp) ⟨x_wcmp,x_mont,x_of,trivial⟩ Tryz.func221 (by kernel_rfl) (by kernel_rfl)
theorem x_wadd:(kWAdd 220).ok Tryz.prog:=cz (fun e hk hp=>law_wAdd 188 220 e hk) ⟨x_add64,trivial⟩ Tryz.func220 (by kernel_rfl) (by kernel_rfl)
theorem x_madd:(kMAdd 179).ok Tryz.prog:=cz (fun e hk hp=>law_mAdd 221 220 177 179 e hk hp) ⟨x_reduce,x_wadd,x_less,trivial⟩ Tryz.func179 (by kernel_rfl) (by kernel_rfl)
theorem x_mwide:(kMWide 106).ok Tryz.prog:=cz (fun e hk hp=>law_mWide 179 180 106 e hp) ⟨x_madd,x_mont,trivial⟩ Tryz.func106 (by kernel_rfl) (by kernel_rfl)
theorem x_wide:(kWide QB 65).ok Tryz.prog gl:=ctr_says (LA:=[]) (T:=[kSumQ QB 103,kWRead 104,kNew 105 253,kMWide 106]) (gls:=gl) hm ⟨x_dsum,x_wread.up,x_new.up,x_mwide.up,trivial⟩ 10000 Tryz.func65 (by kernel_rfl) rfl (by kernel_rfl) (t:=tWide) (by kernel_rfl) (by kernel_rfl) fun e hk hp=>law_wide QB 253 103 104 105 106 65 e hp
theorem x_near2n:(kNever 64 [.agg [.num,.num]] [.agg lsQL,oI]).ok Tryz.prog:=ok_never Tryz.prog 64 _ _
theorem x_clear2n:(kNever 67 [.agg lsQL] [.agg lsQL,oI]).ok Tryz.prog:=ok_never Tryz.prog 67 _ _
theorem x_div64:(kDiv64 223).ok Tryz.prog:=cy [⟨ "bits.go:547",[(.slot 15,[.int .u64]),(.slot 16,[.int .u64])],[]⟩,⟨ "bits.go:559",[(.slot 18,[.int .u64]),(.slot 16,[.int .u64])],[]⟩] (fun e hk hp=>law_div64 99 223 e hk hp) ⟨x_len64,trivial⟩ Tryz.func223 (by kernel_rfl) (by kernel_rfl)
theorem x_rem64:(kRem64 187).ok Tryz.prog:=cz (fun e hk hp=>law_rem64 223 187 e hk hp) ⟨x_div64,trivial⟩ Tryz.func187 (by kernel_rfl) (by kernel_rfl)
theorem x_lmul:(kLMul 118).ok Tryz.prog:=cz (fun e hk hp=>law_lMul 186 187 118 e hp) ⟨x_mul64,x_rem64,trivial⟩ Tryz.func118 (by kernel_rfl) (by kernel_rfl)
theorem x_lpow:(kLPow 181).ok Tryz.prog:=cy [⟨ "little.go:37",[(.slot 8,[.int .i64]),(.slot 7,[.int .u64])],[]⟩] (fun e hk hp=>law_lPow 99 118 181 e hk hp) ⟨x_len64,x_lmul,trivial⟩ Tryz.func181 (by kernel_rfl) (by kernel_rfl)
theorem x_ladd:(kLAdd 147).ok Tryz.prog:=cz (fun e hk hp=>law_lAdd 147 e hk hp) trivial Tryz.func147 (by kernel_rfl) (by kernel_rfl)
theorem x_lright:(kLRight 170).ok Tryz.prog:=cz (fun e hk hp=>law_lRight 118 147 170 e hp) ⟨x_lmul,x_ladd,trivial⟩ Tryz.func170 (by kernel_rfl) (by kernel_rfl)
theorem x_lsub:(kLSub 117).ok Tryz.prog:=cz (fun e hk hp=>law_lSub 117 e hk hp) trivial Tryz.func117 (by kernel_rfl) (by kernel_rfl)
theorem x_lnear:(kLNear 111).ok Tryz.prog:=cy [⟨ "little.go:225",[(.slot 1,[.int .u64]),(.slot 9,[.int .i64])],[]⟩] (fun e hk hp=>law_lNear 89 181 170 118 147 117 111 e hk hp) ⟨x_lof,x_lpow,x_lright,x_lmul,x_ladd,x_lsub,trivial⟩ Tryz.func111 (by kernel_rfl) (by kernel_rfl)
theorem x_lon:(kLOn 98).ok Tryz.prog:=cz (fun e hk hp=>law_lOn 118 170 98 e hp) ⟨x_lmul,x_lright,trivial⟩ Tryz.func98 (by kernel_rfl) (by kernel_rfl)
theorem x_linv:(kLInv 185).ok Tryz.prog:=cz (fun e hk hp=>law_lInv 181 185 e hk hp) ⟨x_lpow,trivial⟩ Tryz.func185 (by kernel_rfl) (by kernel_rfl)
theorem x_lslope:(kLSlope 116).ok Tryz.prog:=cz (fun e hk hp=>law_lSlope 117 185 118 147 116 e hk hp) ⟨x_lsub,x_linv,x_lmul,x_ladd,trivial⟩ Tryz.func116 (by kernel_rfl) (by kernel_rfl)
theorem x_lsum:(kLSum 74).ok Tryz.prog:=cz (fun e hk hp=>law_lSum 116 118 117 74 e hk hp) ⟨x_lslope,x_lmul,x_lsub,trivial⟩ Tryz.func74 (by kernel_rfl) (by kernel_rfl)
theorem x_ltimes:(kLTimes 62).ok Tryz.prog:=cy [⟨ "little.go:87",[(.slot 8,[.int .i64]),(.box 7,[.int .u64,.int .u64,.bool])],[]⟩] (fun e hk hp=>law_lTimes 99 74 62 e hk hp) ⟨x_len64,x_lsum,trivial⟩ Tryz.func62 (by kernel_rfl) (by kernel_rfl)
theorem x_lclear:(kLClear 112).ok Tryz.prog:=cz (fun e hk hp=>law_lClear 89 98 62 112 e hp) ⟨x_lof,x_lon,x_ltimes,trivial⟩ Tryz.func112 (by kernel_rfl) (by kernel_rfl)
theorem x_near:(kNear QB 68).ok Tryz.prog gl:=ctr_says (LA:=[]) (T:=[kPrime 66,kWide QB 65,kLNear 111,kLClear 112]) (gls:=gl) hm ⟨x_prime.up,x_wide,x_lnear.up,x_lclear.up,trivial⟩ 10000 Tryz.func68 (by kernel_rfl) rfl (by kernel_rfl) (t:=tNear) (by kernel_rfl) (by kernel_rfl) fun e hk hp=>law_near QB 66 65 111 112 68 e hp
theorem x_hsigl:(kHSigL QB 37).ok Tryz.prog gl:=ctr_says (LA:=[]) (T:=[kText 5 63,kPrime 66,kWide QB 65,kNever 64 [.agg [.num,.num]] [.agg lsQL,oI],kNever 67 [.agg lsQL] [.agg lsQL,oI],kNear QB 68]) (gls:=gl) hm ⟨x_text.up,x_prime.up,x_wide,x_near2n.up,x_clear2n.up,x_near,trivial⟩ 10000 Tryz.func37 (by kernel_rfl) rfl (by kernel_rfl) (t:=tHashSigL) (by kernel_rfl) (by kernel_rfl) fun e hk hp=>law_hSigL QB 5 63 66 65 64 67 68 37 e hp
theorem x_lin:(kLIn 85).ok Tryz.prog:=cz (fun e hk hp=>law_lIn 98 62 85 e hk hp) ⟨x_lon,x_ltimes,trivial⟩ Tryz.func85 (by kernel_rfl) (by kernel_rfl)
theorem x_lmul2:(kLMul2 36).ok Tryz.prog:=cz (fun e hk hp=>law_lMul2 89 98 62 36 e hp) ⟨x_lof,x_lon,x_ltimes,trivial⟩ Tryz.func36 (by kernel_rfl) (by kernel_rfl)
theorem x_order:(kOrder 33).ok Tryz.prog:=cz (fun e hk hp=>law_order 33 e hk hp) trivial Tryz.func33 (by kernel_rfl) (by kernel_rfl)
theorem x_sorder:(kSOrder 15).ok Tryz.prog:=cz (fun e hk hp=>law_sOrder 33 15 e hk) ⟨x_order,trivial⟩ Tryz.func15 (by kernel_rfl) (by kernel_rfl)
theorem x_mmul:(kMMul 239).ok Tryz.prog:=cz (fun e hk hp=>law_mMul 180 239 e hk hp) ⟨x_mont,trivial⟩ Tryz.func239 (by kernel_rfl) (by kernel_rfl)
theorem x_shr1:(kShR1 110).ok Tryz.prog:=cz (fun e hk hp=>law_shR1 110 e hk) trivial Tryz.func110 (by kernel_rfl) (by kernel_rfl)
theorem x_half:(kHalf 253).ok Tryz.prog:=cz (fun e hk hp=>law_half 220 253 e hk hp) ⟨x_wadd,trivial⟩ Tryz.func253 (by kernel_rfl) (by kernel_rfl)
theorem x_msub:(kMSub 241).ok Tryz.prog:=cz (fun e hk hp=>law_mSub 221 219 220 241 e hk hp) ⟨x_reduce,x_wsub,x_wadd,trivial⟩ Tryz.func241 (by kernel_rfl) (by kernel_rfl)
theorem x_minv:(kMInv 243).ok Tryz.prog:=cy [⟨ "modulus.go:169",[(.box 6,[.num]),(.box 7,[.num]),(.box 8,[.num]),(.box 9,[.num])],[]⟩] (fun e hk hp=>law_mInv 5 221 110 253 16 219 241 243 e hk hp) ⟨x_of,x_reduce,x_shr1,x_half,x_wcmp,x_wsub,x_msub,trivial⟩ Tryz.func243 (by kernel_rfl) (by kernel_rfl)
theorem x_sinv:(kSInv 209).ok Tryz.prog:=cz (fun e hk hp=>law_sInv 33 16 105 243 209 253 e) ⟨x_order,x_wcmp,x_new,x_minv,trivial⟩ Tryz.func209 (by kernel_rfl) (by kernel_rfl)
theorem x_smul:(kS2 207 (·* ·)).ok Tryz.prog:=cz (fun e hk hp=>law_s2 (X:=kMMul 239) 33 16 105 207 253 (fun _ _ _ _ _ h=>h) (fun _ _ _ _ _=>rfl) e) ⟨x_order,x_wcmp,x_new,x_mmul,trivial⟩ Tryz.func207 (by kernel_rfl) (by kernel_rfl)
theorem x_ssub:(kS2 208 (·- ·)).ok Tryz.prog:=cz (fun e hk hp=>law_s2 (X:=kMSub 241) 33 16 105 208 253 (fun _ _ _ _ _ h=>h) (fun _ _ _ _ _=>rfl) e) ⟨x_order,x_wcmp,x_new,x_msub,trivial⟩ Tryz.func208 (by kernel_rfl) (by kernel_rfl)
theorem x_bhash:(kBHash 18).ok Tryz.prog gl:=ctr_says (LA:=[]) (T:=[kHSigL QB 37]) (gls:=gl) hm ⟨x_hsigl,trivial⟩ 10000 Tryz.func18 (by kernel_rfl) rfl (by kernel_rfl) (t:=tBHash) (by kernel_rfl) (by kernel_rfl) fun e hk hp=>law_bHash 37 18 e hp
end Go.Sx
