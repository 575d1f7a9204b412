/- Part No of the proof. -/
import Derived.Test.YtdndmkcppacjnaaGreatDoorNe
import Derived.Test.YtdndmkcppacjnaaGreatDoorNm
import Derived.Test.YtdndmkcppacjnaaGreatDoorNn
import Derived.Test.YtdndmkcppacjnaaGreatDoorRows
import Derived.OpenShut
import Derived.Carry
import Derived.WalkKit
import Derived.ProofKit
import Derived.Deep.DeepHandedRow
import Derived.Lib.LaidTab
import Derived.Test.YtdndmkcppacjnaaGreatDoorCards
import Derived.Test.YtdndmkcppacjnaaGreatDoorTie
set_option linter.unusedVariables false
set_option linter.unusedSimpArgs false
namespace Go.Proofs.YtdndmkcppacjnaaGreatDoor.blsNoneDone
open Go Go.Sx Go.ChangeShapes Go.WideShapes Go.ChangeAt Go.RowKit
theorem sig9 {xs:List Int} (h:lhas lsSgL xs):∃ s a b c d z x y w,xs=[s,a,b,c,d,z,x,y,w]:=by
 match xs,h with
 | [s,a,b,c,d,z,x,y,w],_=>exact ⟨s,a,b,c,d,z,x,y,w,rfl⟩
theorem own:ownKnob Tryz.prog.godebug=none:=by kernel_rfl
theorem laidOut:laidOutB Tryz.prog=true:=by kernel_rfl
theorem walk (hx:(kBNone 3).ok Tryz.prog gl) (w:World) (hg:GlobOk gl w) (a0:Int) (wa0:(Lit.int .i64 a0).wf=true) (a1s a1a a1b a1c a1d a1z a1x a1y a1w:Int) (hx1:lhas lsSgL [a1s,a1a,a1b,a1c,a1d,a1z,a1x,a1y,a1w]) :
  Calls Tryz.prog 3 #[.int .i64 a0,.agg (lvals lsSgL [a1s,a1a,a1b,a1c,a1d,a1z,a1x,a1y,a1w]).toArray] w fun e w'=>e=.returned (.bool true) ∧ Below w.heap.size w w':=by
 have h:=hx w hg [.int .i64 a0,.agg (lvals lsSgL [a1s,a1a,a1b,a1c,a1d,a1z,a1x,a1y,a1w]).toArray] [a0,a1s,a1a,a1b,a1c,a1d,a1z,a1x,a1y,a1w]
  ⟨⟨has_i64' wa0,trivial⟩,rfl,hx1,rfl,rfl,rfl⟩ trivial
 refine h.2.mono fun e w' ⟨vs,he,ho,hb⟩=>⟨?_,hb⟩
 obtain ⟨v,rfl⟩:∃ v,vs=[v]:=by
  match vs,ho with
  | [v],_=>exact ⟨v,rfl⟩
 have h1:[v]=[Value.bool true]:=ho.2.1
 rw [he,show v=Value.bool true from List.head_eq_of_cons_eq h1]
 rfl
noncomputable def laidWorld (os:Os):World :=
 {World.holding Tryz.prog os ⟨#[],#[],[]⟩ with heap:=(World.holding Tryz.prog os ⟨#[],#[],[]⟩).heap.modify 2 fun
   | .cells _ t frozen=>.cells (Go.Sx.Sha.K0.map fun z=>Value.int .u32 z).toArray t frozen
   | o=>o }
def wargs:Array Value:=#[.int .i64 0,.agg #[.int .i64 0,.int .u64 0,.int .u64 0,.int .u64 0,.int .u64 0,.int .u64 0,.int .u64 0,.int .u64 0,.int .u64 0,.int .u64 0,.int .u64 0,.int .u64 0,.int .u64 0,.int .u64 0,.int .u64 0,.int .u64 0,.int .u64 0,.int .u64 0,.int .u64 0,.int .u64 0,.int .u64 0,.int .u64 0,.int .u64 0,.int .u64 0,.int .u64 0,.bool false,.int .u64 0,.int .u64 0,.bool false]]
set_option maxRecDepth 100000 in
theorem laid_met (os:Os):laidMet Tryz.prog Rows.blsNoneRow.laid ((laidWorld os).forCall (fun _ _=>0) ⟨#[],wargs,[]⟩).memory :=
 laidMet_of_run' 8 (by kernel_rfl) (by kernel_rfl)
set_option maxRecDepth 100000 in
theorem reads (os:Os) {H:Type} (enc:TypeId × Value → H):∃ places,DataW.whole enc Tryz.prog ((laidWorld os).forCall (fun _ _=>0) ⟨#[],wargs,[]⟩).memory Tryz.f3.params.toList Rows.blsNoneSpec.vars false wargs.toList 8=some ([.lit (.int .i64 0),.agg [.lit (.int .i64 0),.agg [.agg [.agg [.lit (.int .u64 0),.lit (.int .u64 0),.lit (.int .u64 0),.lit (.int .u64 0),.lit (.int .u64 0),.lit (.int .u64 0)],.agg [.lit (.int .u64 0),.lit (.int .u64 0),.lit (.int .u64 0),.lit (.int .u64 0),.lit (.int .u64 0),.lit (.int .u64 0)]],.agg [.agg [.lit (.int .u64 0),.lit (.int .u64 0),.lit (.int .u64 0),.lit (.int .u64 0),.lit (.int .u64 0),.lit (.int .u64 0)],.agg [.lit (.int .u64 0),.lit (.int .u64 0),.lit (.int .u64 0),.lit (.int .u64 0),.lit (.int .u64 0),.lit (.int .u64 0)]],.lit (.bool false)],.agg [.lit (.int .u64 0),.lit (.int .u64 0),.lit (.bool false)]]],[],places) :=
 ⟨[],by kernel_rfl⟩
theorem globOk {W:World} (h:laidMetH Tryz.prog Rows.blsNoneRow.laid W):GlobOk gl W:=by
 have h1:laidMet Tryz.prog Rows.blsNoneRow.laid W:=by
  rw [MakeChecks.laidMetH_plain _ _ _ (by kernel_rfl)] at h; exact h
 have ht:Lib.TabIs Tryz.prog W "reliquary/digest.k" .u32 Go.Sx.Sha.K0 :=
  Lib.tabIs_of_head (g:=2) (rest:=[]) (by kernel_rfl) rfl Tryz.underlying316 Tryz.underlying271 (by kernel_rfl) (by kernel_rfl) h1
 intro p hp
 rw [show gl=[(2,Go.Sx.Sha.K0.map fun z=>C.int .u32 (.lit z))] from rfl,List.mem_singleton] at hp
 subst hp
 have hc:∀ i,i < Go.Sx.Sha.K0.length → W.cell? ⟨2,i,Option.none⟩=some (.int .u32 (Go.Sx.Sha.K0.getD i 0)):=fun i hi=>ht.cell (by kernel_rfl) i hi
 refine ⟨?_,by kernel_rfl,fun j c hj=>?_⟩
 ·exact cell_lt (hc 0 (by decide))
 ·obtain ⟨z,hz,rfl⟩:∃ z,Go.Sx.Sha.K0[j]?=some z ∧ C.int .u32 (.lit z)=c:=by
   rw [List.getElem?_map] at hj
   exact Option.map_eq_some_iff.1 hj
  have hl:=(List.getElem?_eq_some_iff.1 hz).1
  rw [hc j hl,List.getD_eq_getElem?_getD,hz]; rfl
set_option maxRecDepth 100000 in
theorem lifted (hx:(kBNone 3).ok Tryz.prog gl) (os:Os) (started:os.Started) (H:Type) (enc:TypeId × Value → H) (F:Stop.Interp) :
  ReturnsInHanded {} Tryz.checked os 3 .any ((OpenSpec.ofChange Rows.blsNoneSpec).preRow enc Tryz.prog Tryz.f3 Rows.blsNoneRow.domain false Rows.blsNoneRow.laid) (((OpenSpec.ofChange Rows.blsNoneSpec).at F).post enc Tryz.prog Tryz.f3 false true false false):=by
 obtain ⟨places,hwx⟩:=reads os enc
 refine returnsInHanded_of_row (C:=Tryz.checked) (s:=OpenSpec.ofChange Rows.blsNoneSpec) own started (by kernel_rfl) Tryz.func3
  (witness_row_at (enc:=enc) (C:=Tryz.checked) false (laidWorld os) wargs rfl (by kernel_rfl) (by kernel_rfl) (by kernel_rfl)
   (OpenSpec.preRow_of_cond 8 hwx (by kernel_rfl) (fun k hk=>by cases hk) (by kernel_rfl) (laid_met os))) ?_
 intro W base args ds gs before hval0 hW _ _ _ hL _ _
 have hg:=globOk hL
 have hval:∀ (j:Nat) t v,Tryz.f3.params[j]?=some t → args[j]?=some v → Value.okWide Tryz.prog W .any base t v:=hval0
 have hW':=hW
 obtain ⟨p,q,hA0,hV,rfl,hfz,hnd⟩:=hW
 have hA:DataW.TrodAll enc Tryz.prog W 0 (fun _=>true) true Tryz.f3.params.toList args.toList ds p:=hA0
 rw [Tryz.params3] at hA hval
 obtain ⟨v0,vs0,d0,ds0,p0,q0,hargs,rfl,rfl,h0,r0⟩:=trodAll_cons hA
 obtain ⟨v1,vs1,d1,ds1,p1,q1,rfl,rfl,rfl,h1,r1⟩:=trodAll_cons r0
 obtain ⟨rfl,rfl,rfl⟩:=trodAll_nil r1
 obtain rfl:args=#[v0,v1]:=by cases args; simp_all
 obtain ⟨rfl,rfl⟩:=trodVars_none hV
 have lt1:∀ x ∈ p1,x.block < W.heap.size:=by obtain ⟨m,hm⟩:=h1; exact DataW.trod_lt m _ _ _ hm
 obtain ⟨a0,rfl,rfl,rfl,w0⟩:=open_int Tryz.underlying3 (hval 0 3 v0 rfl rfl) h0
 obtain ⟨x1,hx1,rfl⟩:=open_flat (n:=5) (ls:=lsSgL) (by kernel_rfl) (by kernel_rfl) (hval 1 33 v1 rfl rfl) h1
 obtain ⟨a1s,a1a,a1b,a1c,a1d,a1z,a1x,a1y,a1w,rfl⟩:=sig9 hx1
 clear hA0 hval0
 refine (walk hx W hg a0 w0 a1s a1a a1b a1c a1d a1z a1x a1y a1w hx1).mono fun e W' ⟨he,bel⟩=>?_
 subst he
 exact ⟨_,rfl,_,_,_,[],_,[],hW',trodAll_mk1 (shut_bool Tryz.underlying4 _),(trodAll_cons_mk (shut_int Tryz.underlying3 w0) (trodAll_cons_mk (Below.trod laidOut (by kernel_rfl) (of_decide_eq_true (by kernel_rfl)) h1 bel lt1) trodAll_mk0)),rfl,bel.frame _,fun h=>by cases h⟩
theorem said (hx:(kBNone 3).ok Tryz.prog gl):Rows.BlsNoneSaid :=
 OpenClaim.holds_of_cond 3 Tryz.f3 rfl rfl rfl rfl rfl rfl rfl ⟨rfl,rfl,rfl,rfl,rfl⟩ rfl rfl rfl rfl rfl (by kernel_rfl) Tryz.func3 (by kernel_rfl)
  (of_decide_eq_true (by kernel_rfl)) (by unfold Func.isWrapper; first | (rw [if_pos (by decide +kernel)]; kernel_rfl) | (rw [if_neg (by decide +kernel)]; exact ⟨rfl,rfl⟩))
  (fun os started H enc _ F=>by rw [OpenClaim.pre_eq_preRow]; exact lifted hx os started H enc F)
theorem plain (f:FuncId) (fn:Func) (hf:Tryz.pinned.checked.prog.funcNamed "reliquary/reliquarylaw25.BlsNone" = some f) (hfn:Tryz.pinned.checked.prog.funcs[f]?=some fn) :
  false=Tryz.pinned.checked.prog.looks [] ∧ ∀ (j:Nat) t,fn.params[j]?=some t → Tryz.pinned.checked.prog.wantsStandIn t=false:=by
 obtain rfl:f=3:=Option.some.inj ((show Tryz.prog.funcNamed "reliquary/reliquarylaw25.BlsNone" = some 3 by kernel_rfl).symm.trans hf) |>.symm
 obtain rfl:fn=Tryz.f3:=(Option.some.inj (Tryz.func3.symm.trans hfn)).symm
 refine ⟨by kernel_rfl,fun j t ht=>?_⟩
 rw [Tryz.params3] at ht
 have hmem:=Array.mem_of_getElem? ht
 simp only [List.mem_toArray,List.mem_cons,List.not_mem_nil,or_false] at hmem
 rcases hmem with rfl | rfl
 ·exact (show Tryz.prog.wantsStandIn 3=false by kernel_rfl)
 ·exact (show Tryz.prog.wantsStandIn 33=false by kernel_rfl)
end Go.Proofs.YtdndmkcppacjnaaGreatDoor.blsNoneDone
namespace Go.Proofs.YtdndmkcppacjnaaGreatDoor
open Go Go.Sx
theorem blsNone_over (hx:(kBNone 3).ok Tryz.prog gl):Rows.BlsNoneCardSaid :=
 Claim7.holds_tied_plain_at .later [] _ _ _ _ (blsNoneDone.said hx) (fun _ h=>by cases h) (by kernel_rfl) (fun _ h=>by cases h) blsNone_row_tie rfl ⟨rfl,rfl⟩ (by kernel_rfl) rfl blsNoneDone.plain (by kernel_rfl)
end Go.Proofs.YtdndmkcppacjnaaGreatDoor
