/- Part Qt31 of the proof. -/
import Derived.Test.YtjkkfifojkfnjaaGreatDoorQt30
import Derived.Test.YtjkkfifojkfnjaaGreatDoorQt35
import Derived.Test.YtjkkfifojkfnjaaGreatDoorQt36
import Derived.Test.YtjkkfifojkfnjaaGreatDoorQt37
import Derived.Test.YtjkkfifojkfnjaaGreatDoorNo
set_option linter.unusedVariables false
set_option linter.unusedSimpArgs false
namespace Go.Sx
open Go Go.Proofs Go.RowKit
set_option maxRecDepth 1000000
theorem wide_row {n g v:Int} {t:List Int} {f:FuncId} (hn:n%2=1/\3<=n/\n<2^382) (ht:Nat.ble t.length 65536=true) (hv:Cx.intEq (wideV n g t) v=true):(kWide QW f).pre ([W.wi n,.wi g,.wl t].map W.toI)/\(kWide QW f).sem ([W.wi n,.wi g,.wl t].map W.toI)=[W.wi v].map W.toI:=by
 have hl:t.length<=65536:=by simpa using ht
 rw [Cx.intEq_ok] at hv
 have hv:wideV n g t=v:=by simpa using hv
 refine ⟨?_,?_⟩
 ·show (n%2=1/\3<=n/\n<2^382)/\(dec (enc t)).length<=65536/\QW g (dec (enc t))
  rw [dec_enc];exact ⟨hn,hl,hl⟩
 ·show [wideV n g (dec (enc t))]=[v]
  rw [dec_enc,hv]
def tb_wide:Tb:=[([.wi 65521,.wi 2,.wl wt0],[.wi 58635]),([.wi 65521,.wi 2,.wl wt1],[.wi 58767]),([.wi 65521,.wi 2,.wl wt2],[.wi 48209]),([.wi 65521,.wi 2,.wl wt3],[.wi 35699]),([.wi 65521,.wi 2,.wl wt4],[.wi 52635]),([.wi 65521,.wi 2,.wl wt5],[.wi 59821]),([.wi 65521,.wi 2,.wl wt6],[.wi 57357]),([.wi 65521,.wi 2,.wl wt7],[.wi 11030]),([.wi 65521,.wi 2,.wl wt8],[.wi 36081])]
set_option exponentiation.threshold 500 in
noncomputable def o_wide:Or1:=⟨kWide QW 55,findT tb_wide,fun aq os h=>by
 have hm:=findT_mem h
 simp only [tb_wide,List.mem_cons,List.not_mem_nil,or_false,Prod.mk.injEq] at hm
 rcases hm with ⟨rfl,rfl⟩ | ⟨rfl,rfl⟩ | ⟨rfl,rfl⟩ | ⟨rfl,rfl⟩ | ⟨rfl,rfl⟩ | ⟨rfl,rfl⟩ | ⟨rfl,rfl⟩ | ⟨rfl,rfl⟩ | ⟨rfl,rfl⟩
 ·exact wide_row (by decide) (by kernel_rfl) we0
 ·exact wide_row (by decide) (by kernel_rfl) we1
 ·exact wide_row (by decide) (by kernel_rfl) we2
 ·exact wide_row (by decide) (by kernel_rfl) we3
 ·exact wide_row (by decide) (by kernel_rfl) we4
 ·exact wide_row (by decide) (by kernel_rfl) we5
 ·exact wide_row (by decide) (by kernel_rfl) we6
 ·exact wide_row (by decide) (by kernel_rfl) we7
 ·exact wide_row (by decide) (by kernel_rfl) we8⟩
end Go.Sx
