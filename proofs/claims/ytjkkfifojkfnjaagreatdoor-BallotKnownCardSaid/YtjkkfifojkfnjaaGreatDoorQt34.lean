/- Part Qt34 of the proof. -/
import Derived.Test.YtjkkfifojkfnjaaGreatDoorQt30
import Derived.Test.YtjkkfifojkfnjaaGreatDoorNo
set_option linter.unusedVariables false
set_option linter.unusedSimpArgs false
namespace Go.Sx
open Go Go.Proofs Go.RowKit
set_option maxRecDepth 1000000
theorem x_sha:(Sha.kSum 6).ok Tryz.prog gl:=ctr_says (LA:=[⟨ "digest.go:38",[(.slot 15,[.int .i64]),(.box 4,[.arr .u32 64])],[]⟩,⟨ "digest.go:47",[(.slot 96,[.int .i64]),(.box 8,[.arr .u32 8])],[]⟩,⟨ "digest.go:77",[(.slot 11,[.int .i64]),(.box 0,[.arr .u32 8,.arr .u8 64,.int .i64,.bool])],[]⟩,⟨ "digest.go:95",[],[{slot:=5,k:=.int .u8,elem:=5 }]⟩,⟨ "digest.go:101",[(.view 5,[.int .i64]),(.box 4,[.arr .u32 8])],[]⟩]) (T:=[Sha.kRot 75]) (gls:=gl) hm ⟨x_rot.up,trivial⟩ 10000 Tryz.func6 (by kernel_rfl) rfl (by kernel_rfl) (t:=Sha.tDSum) (by kernel_rfl) (by kernel_rfl) fun e hk hp=>Sha.law_dsum 75 6 e hp
theorem sha_row {t r:List Int} {f:FuncId} (ht:Nat.ble t.length 65536=true) (hv:intsEq (Sha.sha t) r=true):(Sha.kSum f).pre ([W.wl t].map W.toI)/\(Sha.kSum f).sem ([W.wl t].map W.toI)=[W.wl r].map W.toI:=by
 have hl:t.length<=65536:=by simpa using ht
 have hv:Sha.sha t=r:=intsEq_ok hv
 refine ⟨?_,?_⟩
 ·show (dec (enc t)).length<1073741824
  rw [dec_enc];omega
 ·show [enc (Sha.sha (dec (enc t)))]=[enc r]
  rw [dec_enc,hv]
def tb_sha:Tb:=[([.wl [97,98,99]],[.wl [186,120,22,191,143,1,207,234,65,65,64,222,93,174,34,35,176,3,97,163,150,23,122,156,180,16,255,97,242,0,21,173]]),([.wl []],[.wl [227,176,196,66,152,252,28,20,154,251,244,200,153,111,185,36,39,174,65,228,100,155,147,76,164,149,153,27,120,82,184,85]])]
noncomputable def o_sha:Or1:=⟨Sha.kSum 6,findT tb_sha,fun aq os h=>by
 have hm:=findT_mem h
 simp only [tb_sha,List.mem_cons,List.not_mem_nil,or_false,Prod.mk.injEq] at hm
 rcases hm with ⟨rfl,rfl⟩ | ⟨rfl,rfl⟩
 ·exact sha_row (by kernel_rfl) (by kernel_rfl)
 ·exact sha_row (by kernel_rfl) (by kernel_rfl)⟩
end Go.Sx
