/- Part Qc34 of the proof. -/
import Derived.Test.YtjkkfifojkfnjaaGreatDoorNd
import Derived.Test.YtjkkfifojkfnjaaGreatDoorQt44
import Derived.Test.YtjkkfifojkfnjaaGreatDoorRows
import Derived.OpenShut
import Derived.Carry
import Derived.WalkKit
import Derived.ProofKit
import Derived.Deep.DeepHandedRow
import Derived.Lib.LaidTab
import Derived.Test.YtjkkfifojkfnjaaGreatDoorCards
import Derived.Test.YtjkkfifojkfnjaaGreatDoorTie
set_option linter.unusedVariables false
set_option linter.unusedSimpArgs false
namespace Go.Proofs.YtjkkfifojkfnjaaGreatDoor.ballotKnownDone
open Go Go.Sx Go.ChangeShapes Go.WideShapes Go.ChangeAt Go.RowKit
theorem own:ownKnob Tryz.prog.godebug=none:=by kernel_rfl
noncomputable def laidWorld (os:Os):World :=
 {World.holding Tryz.prog os ⟨#[],#[],[]⟩ with heap:=(World.holding Tryz.prog os ⟨#[],#[],[]⟩).heap.modify 0 fun
   | .cells _ t frozen=>.cells (Go.Sx.Sha.K0.map fun z=>Value.int .u32 z).toArray t frozen
   | o=>o }
def wargs:Array Value:=#[]
set_option maxRecDepth 100000 in
theorem laid_met (os:Os):laidMet Tryz.prog Rows.ballotKnownRow.laid ((laidWorld os).forCall (fun _ _=>0) ⟨#[],wargs,[]⟩).memory :=
 laidMet_of_run' 8 (by kernel_rfl) (by kernel_rfl)
set_option maxRecDepth 100000 in
theorem reads (os:Os) {H:Type} (enc:TypeId×Value->H):∃ places,DataW.whole enc Tryz.prog ((laidWorld os).forCall (fun _ _=>0) ⟨#[],wargs,[]⟩).memory Tryz.f3.params.toList Rows.ballotKnownSpec.vars false wargs.toList 8=some ([],[],places) :=
 ⟨[],by kernel_rfl⟩
theorem globOk {W:World} (h:laidMetH Tryz.prog Rows.ballotKnownRow.laid W):GlobOk gl W:=by
 have h1:laidMet Tryz.prog Rows.ballotKnownRow.laid W:=by
  rw [MakeChecks.laidMetH_plain _ _ _ (by kernel_rfl)] at h;exact h
 have ht:Lib.TabIs Tryz.prog W "reliquary/digest.k" .u32 Go.Sx.Sha.K0 :=
  Lib.tabIs_of_head (g:=0) (rest:=[]) (by kernel_rfl) rfl Tryz.underlying151 Tryz.underlying111 (by kernel_rfl) (by kernel_rfl) h1
 intro p hp
 rw [show gl=[(0,Go.Sx.Sha.K0.map fun z=>C.int .u32 (.lit z))] from rfl,List.mem_singleton] at hp
 subst hp
 have hc:∀ i,i<Go.Sx.Sha.K0.length->W.cell? ⟨0,i,Option.none⟩=some (.int .u32 (Go.Sx.Sha.K0.getD i 0)):=fun i hi=>ht.cell (by kernel_rfl) i hi
 refine ⟨?_,by kernel_rfl,fun j c hj=>?_⟩
 ·exact cell_lt (hc 0 (by decide))
 ·obtain ⟨z,hz,rfl⟩:∃ z,Go.Sx.Sha.K0[j]?=some z/\C.int .u32 (.lit z)=c:=by
   rw [List.getElem?_map] at hj
   exact Option.map_eq_some_iff.1 hj
  have hl:=(List.getElem?_eq_some_iff.1 hz).1
  rw [hc j hl,List.getD_eq_getElem?_getD,hz];rfl
set_option maxRecDepth 100000 in
theorem lifted (os:Os) (started:os.Started) (H:Type) (enc:TypeId×Value->H) (F:Stop.Interp) :
  ReturnsInHanded {} Tryz.checked os 3 .any ((OpenSpec.ofChange Rows.ballotKnownSpec).preRow enc Tryz.prog Tryz.f3 Rows.ballotKnownRow.domain false Rows.ballotKnownRow.laid) (((OpenSpec.ofChange Rows.ballotKnownSpec).at F).post enc Tryz.prog Tryz.f3 false true false false):=by
 obtain ⟨places,hwx⟩:=reads os enc
 refine returnsInHanded_of_row (C:=Tryz.checked) (s:=OpenSpec.ofChange Rows.ballotKnownSpec) own started (by kernel_rfl) Tryz.func3
  (witness_row_at (enc:=enc) (C:=Tryz.checked) false (laidWorld os) wargs rfl (by kernel_rfl) (by kernel_rfl) (by kernel_rfl)
   (OpenSpec.preRow_of_cond 8 hwx (by kernel_rfl) (fun k hk=>by cases hk) (by kernel_rfl) (laid_met os))) ?_
 intro W base args ds gs before hval0 hW _ _ _ hL _ _
 have hg:=globOk hL
 have hW':=hW
 obtain ⟨p,q,hA0,hV,rfl,hfz,hnd⟩:=hW
 have hA:DataW.TrodAll enc Tryz.prog W 0 (fun _=>true) true Tryz.f3.params.toList args.toList ds p:=hA0
 rw [Tryz.params3] at hA
 obtain ⟨hargs,rfl,rfl⟩:=trodAll_nil hA
 obtain rfl:args=#[]:=by cases args;simp_all
 obtain ⟨rfl,rfl⟩:=trodVars_none hV
 clear hA0 hval0
 refine (walkKnown W hg).mono fun e W' ⟨he,bel⟩=>?_
 subst he
 exact ⟨_,rfl,_,_,_,[],_,[],hW',trodAll_mk1 (shut_bool Tryz.underlying4 _),trodAll_mk0,rfl,bel.frame _,fun h=>by cases h⟩
theorem said:Rows.BallotKnownSaid :=
 OpenClaim.holds_of_cond 3 Tryz.f3 rfl rfl rfl rfl rfl rfl rfl ⟨rfl,rfl,rfl,rfl,rfl⟩ rfl rfl rfl rfl rfl (by kernel_rfl) Tryz.func3 (by kernel_rfl)
  (of_decide_eq_true (by kernel_rfl)) (by unfold Func.isWrapper;first | (rw [if_pos (by decide +kernel)];kernel_rfl) | (rw [if_neg (by decide +kernel)];exact ⟨rfl,rfl⟩))
  (fun os started H enc _ F=>by rw [OpenClaim.pre_eq_preRow];exact lifted os started H enc F)
theorem plain (f:FuncId) (fn:Func) (hf:Tryz.pinned.checked.prog.funcNamed "reliquary/reliquarylaw17.BallotKnown" = some f) (hfn:Tryz.pinned.checked.prog.funcs[f]?=some fn) :
  false=Tryz.pinned.checked.prog.looks []/\∀ (j:Nat) t,fn.params[j]?=some t->Tryz.pinned.checked.prog.wantsStandIn t=false:=by
 obtain rfl:f=3:=Option.some.inj ((show Tryz.prog.funcNamed "reliquary/reliquarylaw17.BallotKnown" = some 3 by kernel_rfl).symm.trans hf) |>.symm
 obtain rfl:fn=Tryz.f3:=(Option.some.inj (Tryz.func3.symm.trans hfn)).symm
 refine ⟨by kernel_rfl,fun j t ht=>?_⟩
 rw [Tryz.params3] at ht
 simp at ht
end Go.Proofs.YtjkkfifojkfnjaaGreatDoor.ballotKnownDone
namespace Go.Proofs.YtjkkfifojkfnjaaGreatDoor
open Go Go.Sx
theorem ballotKnown_holds:Rows.BallotKnownCardSaid :=
 Claim7.holds_tied_plain_at .later [] _ _ _ _ ballotKnownDone.said (fun _ h=>by cases h) (by kernel_rfl) (fun _ h=>by cases h) ballotKnown_row_tie rfl ⟨rfl,rfl⟩ (by kernel_rfl) rfl ballotKnownDone.plain (by kernel_rfl)
end Go.Proofs.YtjkkfifojkfnjaaGreatDoor
