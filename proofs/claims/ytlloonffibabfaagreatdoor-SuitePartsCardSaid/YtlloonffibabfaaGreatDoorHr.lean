/- Part Hr of the proof. -/
import Derived.Test.YtlloonffibabfaaGreatDoorHd
import Derived.Test.YtlloonffibabfaaGreatDoorHp
import Derived.Test.YtlloonffibabfaaGreatDoorHq
import Derived.Test.YtlloonffibabfaaGreatDoorRows
import Derived.OpenShut
import Derived.Carry
import Derived.WalkKit
import Derived.ProofKit
import Derived.Deep.DeepHandedRow
import Derived.Lib.LaidTab
import Derived.Test.YtlloonffibabfaaGreatDoorCards
import Derived.Test.YtlloonffibabfaaGreatDoorTie
set_option linter.unusedVariables false
set_option linter.unusedSimpArgs false
namespace Go.Proofs.YtlloonffibabfaaGreatDoor.suitePartsDone
open Go Go.Sx Go.ChangeShapes Go.WideShapes Go.ChangeAt Go.RowKit
theorem own:ownKnob Tryz.prog.godebug=none:=by kernel_rfl
theorem laidOut:laidOutB Tryz.prog=true:=by kernel_rfl
theorem walk(hx:(B1 4).ok Tryz.prog gl)(w:World)(hg:Qf7 gl w)(a0:Int)(wa0:(Lit.int .i64 a0).wf=true)(u1:Value)(l1:List Int)(hr1:Qa2 w u1 l1) :
  Calls Tryz.prog 4 #[.int .i64 a0,u1] w fun e w'=>e=.returned (.bool true)/\Below w.heap.size w w':=by
 have h:=hx w hg [.int .i64 a0,u1] [a0,enc l1]
  ⟨⟨Zev wa0,trivial⟩,rfl,⟨(show LK.byt.hasL (dec (enc l1)) by rw[Qu];exact hr1.1),trivial⟩,(show Qa2 w u1 (dec (enc l1)) by rw[Qu];exact hr1),rfl,rfl⟩ trivial
 refine h.2.mono fun e w' ⟨vs,he,ho,hb⟩=>⟨?_,hb⟩
 obtain⟨v,rfl⟩:∃v,vs=[v]:=by
  match vs,ho with
  |[v],_=>exact⟨v,rfl⟩
 have h1:[v]=[Value.bool true]:=ho.2.1;rw[he,show v=Value.bool true from List.head_eq_of_cons_eq h1];rfl
noncomputable def Qf8(os:Os):World :=
 {World.holding Tryz.prog os ⟨#[],#[],[]⟩with heap:=(World.holding Tryz.prog os ⟨#[],#[],[]⟩).heap.modify 0 fun
   |.cells _ t frozen=>.cells (Go.Sx.Sha.K0.map fun z=>Value.int .u32 z).toArray t frozen
   |o=>o }
def Qx1:Array Value:=#[.int .i64 0,.slice none 0 0]
set_option maxRecDepth 100000 in
theorem Zh9(os:Os):laidMet Tryz.prog Rows.suitePartsRow.laid ((Qf8 os).forCall (fun _ _=>0) ⟨#[],Qx1,[]⟩).memory :=
 laidMet_of_run' 8 (by kernel_rfl) (by kernel_rfl)
set_option maxRecDepth 100000 in
theorem reads(os:Os){H:Type}(enc:TypeId×Value->H):∃places,DataW.whole enc Tryz.prog ((Qf8 os).forCall (fun _ _=>0) ⟨#[],Qx1,[]⟩).memory Tryz.f4.params.toList Rows.suitePartsSpec.vars false Qx1.toList 8=some ([.lit (.int .i64 0),.nil],[],places) :=
 ⟨[],by kernel_rfl⟩
theorem Zsz{W:World}(h:laidMetH Tryz.prog Rows.suitePartsRow.laid W):Qf7 gl W:=by
 have h1:laidMet Tryz.prog Rows.suitePartsRow.laid W:=by
  rw[MakeChecks.laidMetH_plain _ _ _ (by kernel_rfl)]at h;exact h
 have ht:Lib.TabIs Tryz.prog W "reliquary/digest.k" .u32 Go.Sx.Sha.K0 :=
  Lib.tabIs_of_head (g:=0) (rest:=[]) (by kernel_rfl) rfl Tryz.underlying301 Tryz.underlying287 (by kernel_rfl) (by kernel_rfl) h1
 intro p hp;rw[show gl=[(0,Go.Sx.Sha.K0.map fun z=>C.int .u32 (.lit z))]from rfl,Me]at hp;subst hp;have hc:∀i,i<Go.Sx.Sha.K0.length->W.cell? ⟨0,i,Option.none⟩=some (.int .u32 (Go.Sx.Sha.K0.getD i 0)):=fun i hi=>ht.cell (by kernel_rfl) i hi
 refine⟨?_,by kernel_rfl,fun j c hj=>?_⟩
 ·exact Zad (hc 0 (by decide))
 ·obtain⟨z,hz,rfl⟩:∃z,Go.Sx.Sha.K0[j]?=some z/\C.int .u32 (.lit z)=c:=by
   rw[M2]at hj;exact Option.map_eq_some_iff.1 hj
  have hl:=(Ow.1 hz).1;rw[hc j hl,Ou,hz];rfl
set_option maxRecDepth 100000 in
theorem lifted(hx:(B1 4).ok Tryz.prog gl)(os:Os)(started:os.Started)(H:Type)(enc:TypeId×Value->H)(F:Stop.Interp) :
  ReturnsInHanded {} Tryz.checked os 4 .any ((OpenSpec.ofChange Rows.suitePartsSpec).preRow enc Tryz.prog Tryz.f4 Rows.suitePartsRow.domain false Rows.suitePartsRow.laid) (((OpenSpec.ofChange Rows.suitePartsSpec).at F).post enc Tryz.prog Tryz.f4 false true false false):=by
 obtain⟨places,hwx⟩:=reads os enc
 refine returnsInHanded_of_row (C:=Tryz.checked) (s:=OpenSpec.ofChange Rows.suitePartsSpec) own started (by kernel_rfl) Tryz.func4
  (witness_row_at (enc:=enc) (C:=Tryz.checked) false (Qf8 os) Qx1 rfl (by kernel_rfl) (by kernel_rfl) (by kernel_rfl)
   (OpenSpec.preRow_of_cond 8 hwx (by kernel_rfl) (fun k hk=>by cases hk) (by kernel_rfl) (Zh9 os))) ?_
 intro W base args ds gs before hval0 hW _ _ _ hL _ _;have hg:=Zsz hL;have hval:∀(j:Nat) t v,Tryz.f4.params[j]?=some t->args[j]?=some v->Value.okWide Tryz.prog W .any base t v:=hval0;have hW':=hW;obtain⟨p,q,hA0,hV,rfl,hfz,hnd⟩:=hW;have hA:DataW.TrodAll enc Tryz.prog W 0 (fun _=>true) true Tryz.f4.params.toList args.toList ds p:=hA0;rw[Tryz.params4]at hA hval;obtain⟨v0,vs0,d0,ds0,p0,q0,hargs,rfl,rfl,h0,r0⟩:=trodAll_cons hA;obtain⟨v1,vs1,d1,ds1,p1,q1,rfl,rfl,rfl,h1,r1⟩:=trodAll_cons r0;obtain⟨rfl,rfl,rfl⟩:=trodAll_nil r1;obtain rfl:args=#[v0,v1]:=by cases args;simp_all
 obtain⟨rfl,rfl⟩:=trodVars_none hV;have lt1:∀x∈p1,x.block<W.heap.size:=by obtain⟨m,hm⟩:=h1;exact DataW.trod_lt m _ _ _ hm
 obtain⟨a0,rfl,rfl,rfl,w0⟩:=open_int Tryz.underlying22 (hval 0 22 v0 rfl rfl) h0;obtain⟨l1,hr1⟩:=Zo3 Tryz.underlying23 Tryz.underlying24 Tryz.underlying5 (by kernel_rfl) (by kernel_rfl) (hval 1 23 v1 rfl rfl) h1;clear hA0 hval0;refine(walk hx W hg a0 w0 v1 l1 hr1).mono fun e W' ⟨he,bel⟩=>?_
 subst he;exact⟨_,rfl,_,_,_,[],_,[],hW',trodAll_mk1 (shut_bool Tryz.underlying4 _),(trodAll_cons_mk (shut_int Tryz.underlying22 w0) (trodAll_cons_mk (Below.trod laidOut (by kernel_rfl) (of_decide_eq_true (by kernel_rfl)) h1 bel lt1) trodAll_mk0)),rfl,bel.frame _,fun h=>by cases h⟩
theorem said(hx:(B1 4).ok Tryz.prog gl):Rows.SuitePartsSaid :=
 OpenClaim.holds_of_cond 4 Tryz.f4 rfl rfl rfl rfl rfl rfl rfl ⟨rfl,rfl,rfl,rfl,rfl⟩ rfl rfl rfl rfl rfl (by kernel_rfl) Tryz.func4 (by kernel_rfl)
  (of_decide_eq_true (by kernel_rfl)) (by unfold Func.isWrapper;first|(rw[if_pos (by decide +kernel)];kernel_rfl)|(rw[if_neg (by decide +kernel)];exact⟨rfl,rfl⟩))
  (fun os started H enc _ F=>by rw[OpenClaim.pre_eq_preRow];exact lifted hx os started H enc F)
theorem plain(f:FuncId)(fn:Func)(hf:Tryz.pinned.checked.prog.funcNamed "reliquary/reliquarylaw11.SuiteParts" = some f)(hfn:Tryz.pinned.checked.prog.funcs[f]?=some fn) :
  false=Tryz.pinned.checked.prog.looks []/\∀(j:Nat) t,fn.params[j]?=some t->Tryz.pinned.checked.prog.wantsStandIn t=false:=by
 obtain rfl:f=4:=Option.some.inj ((show Tryz.prog.funcNamed "reliquary/reliquarylaw11.SuiteParts" = some 4 by kernel_rfl).symm.trans hf) |>.symm;obtain rfl:fn=Tryz.f4:=(Option.some.inj (Tryz.func4.symm.trans hfn)).symm;refine⟨by kernel_rfl,fun j t ht=>?_⟩;rw[Tryz.params4]at ht;have hmem:=Array.mem_of_getElem? ht;simp only[List.mem_toArray,Mh,M6,or_false]at hmem;rcases hmem with rfl|rfl
 ·exact(show Tryz.prog.wantsStandIn 22=false by kernel_rfl)
 ·exact(show Tryz.prog.wantsStandIn 23=false by kernel_rfl)
end Go.Proofs.YtlloonffibabfaaGreatDoor.suitePartsDone
namespace Go.Proofs.YtlloonffibabfaaGreatDoor
open Go Go.Sx
theorem Qhw(hx:(B1 4).ok Tryz.prog gl):Rows.SuitePartsCardSaid :=
 Claim7.holds_tied_plain_at .later [] _ _ _ _ (suitePartsDone.said hx) (fun _ h=>by cases h) (by kernel_rfl) (fun _ h=>by cases h) suiteParts_row_tie rfl ⟨rfl,rfl⟩ (by kernel_rfl) rfl suitePartsDone.plain (by kernel_rfl)
end Go.Proofs.YtlloonffibabfaaGreatDoor
