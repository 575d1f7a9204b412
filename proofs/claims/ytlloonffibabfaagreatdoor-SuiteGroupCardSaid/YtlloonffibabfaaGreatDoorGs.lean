/- Part Gs of the proof. -/
import Derived.Test.YtlloonffibabfaaGreatDoorGd
import Derived.Test.YtlloonffibabfaaGreatDoorGp
import Derived.Test.YtlloonffibabfaaGreatDoorGr
import Derived.Test.YtlloonffibabfaaGreatDoorRows
import Derived.OpenShut
import Derived.Carry
import Derived.WalkKit
import Derived.ProofKit
import Derived.Deep.DeepHandedRow
import Derived.Lib.LaidTab
import Derived.Test.YtlloonffibabfaaGreatDoorCards
import Derived.Test.YtlloonffibabfaaGreatDoorTie
set_option linter.unusedVariables false
set_option linter.unusedSimpArgs false
namespace Go.Proofs.YtlloonffibabfaaGreatDoor.suiteGroupDone
open Go Go.Sx Go.ChangeShapes Go.WideShapes Go.ChangeAt Go.RowKit
theorem own:ownKnob Tryz.prog.godebug=none:=by kernel_rfl
theorem laidOut:laidOutB Tryz.prog=true:=by kernel_rfl
theorem walk(hx:(Qay 5).ok Tryz.prog gl)(w:World)(hg:Qhw gl w)(a0:Int)(wa0:(Lit.int .i64 a0).wf=true)(a1:Int)(ha1:0<=a1/\a1<Qv)(a2:Int)(ha2:0<=a2/\a2<Qv)(a3:Int)(ha3:0<=a3/\a3<Qv)(a4:Int)(ha4:0<=a4/\a4<Qv) :
  Calls Tryz.prog 5 #[.int .i64 a0,.agg (Yi a1).toArray,.agg (Yi a2).toArray,.agg (Yi a3).toArray,.agg (Yi a4).toArray] w fun e w'=>e=.returned (.bool true)/\Below w.heap.size w w':=by
 have h:=hx w hg [.int .i64 a0,.agg (Yi a1).toArray,.agg (Yi a2).toArray,.agg (Yi a3).toArray,.agg (Yi a4).toArray] [a0,a1,a2,a3,a4]
  ⟨⟨Zmv wa0,trivial⟩,rfl,⟨ha1,trivial⟩,by simp[Sh.rel,Zu,Sh.leaves,Qt,L.n],⟨ha2,trivial⟩,by simp[Sh.rel,Zu,Sh.leaves,Qt,L.n],⟨ha3,trivial⟩,by simp[Sh.rel,Zu,Sh.leaves,Qt,L.n],⟨ha4,trivial⟩,by simp[Sh.rel,Zu,Sh.leaves,Qt,L.n],rfl,rfl⟩ trivial
 refine h.2.mono fun e w' ⟨vs,he,ho,hb⟩=>⟨?_,hb⟩
 obtain⟨v,rfl⟩:∃v,vs=[v]:=by
  match vs,ho with
  |[v],_=>exact⟨v,rfl⟩
 have h1:[v]=[Value.bool true]:=ho.2.1;rw[he,show v=Value.bool true from List.head_eq_of_cons_eq h1];rfl
noncomputable def Qh2(os:Os):World :=
 {World.holding Tryz.prog os ⟨#[],#[],[]⟩with heap:=(World.holding Tryz.prog os ⟨#[],#[],[]⟩).heap.modify 0 fun
   |.cells _ t frozen=>.cells (Go.Sx.Sha.K0.map fun z=>Value.int .u32 z).toArray t frozen
   |o=>o }
def Zck:Array Value:=#[.int .i64 0,.agg #[.int .u64 0,.int .u64 0,.int .u64 0,.int .u64 0,.int .u64 0,.int .u64 0],.agg #[.int .u64 0,.int .u64 0,.int .u64 0,.int .u64 0,.int .u64 0,.int .u64 0],.agg #[.int .u64 0,.int .u64 0,.int .u64 0,.int .u64 0,.int .u64 0,.int .u64 0],.agg #[.int .u64 0,.int .u64 0,.int .u64 0,.int .u64 0,.int .u64 0,.int .u64 0]]
set_option maxRecDepth 100000 in
theorem Zlv(os:Os):laidMet Tryz.prog Rows.suiteGroupRow.laid ((Qh2 os).forCall (fun _ _=>0) ⟨#[],Zck,[]⟩).memory :=
 laidMet_of_run' 8 (by kernel_rfl) (by kernel_rfl)
set_option maxRecDepth 100000 in
theorem reads(os:Os){H:Type}(enc:TypeId×Value->H):∃places,DataW.whole enc Tryz.prog ((Qh2 os).forCall (fun _ _=>0) ⟨#[],Zck,[]⟩).memory Tryz.f5.params.toList Rows.suiteGroupSpec.vars false Zck.toList 8=some ([.lit (.int .i64 0),.agg [.lit (.int .u64 0),.lit (.int .u64 0),.lit (.int .u64 0),.lit (.int .u64 0),.lit (.int .u64 0),.lit (.int .u64 0)],.agg [.lit (.int .u64 0),.lit (.int .u64 0),.lit (.int .u64 0),.lit (.int .u64 0),.lit (.int .u64 0),.lit (.int .u64 0)],.agg [.lit (.int .u64 0),.lit (.int .u64 0),.lit (.int .u64 0),.lit (.int .u64 0),.lit (.int .u64 0),.lit (.int .u64 0)],.agg [.lit (.int .u64 0),.lit (.int .u64 0),.lit (.int .u64 0),.lit (.int .u64 0),.lit (.int .u64 0),.lit (.int .u64 0)]],[],places) :=
 ⟨[],by kernel_rfl⟩
theorem Xbt{W:World}(h:laidMetH Tryz.prog Rows.suiteGroupRow.laid W):Qhw gl W:=by
 have h1:laidMet Tryz.prog Rows.suiteGroupRow.laid W:=by
  rw[MakeChecks.laidMetH_plain _ _ _ (by kernel_rfl)]at h;exact h
 have ht:Lib.TabIs Tryz.prog W "reliquary/digest.k" .u32 Go.Sx.Sha.K0 :=
  Lib.tabIs_of_head (g:=0) (rest:=[]) (by kernel_rfl) rfl Tryz.underlying301 Tryz.underlying287 (by kernel_rfl) (by kernel_rfl) h1
 intro p hp;rw[show gl=[(0,Go.Sx.Sha.K0.map fun z=>C.int .u32 (.lit z))]from rfl,O5]at hp;subst hp;have hc:∀i,i<Go.Sx.Sha.K0.length->W.cell? ⟨0,i,Option.none⟩=some (.int .u32 (Go.Sx.Sha.K0.getD i 0)):=fun i hi=>ht.cell (by kernel_rfl) i hi
 refine⟨?_,by kernel_rfl,fun j c hj=>?_⟩
 ·exact Zcj (hc 0 (by decide))
 ·obtain⟨z,hz,rfl⟩:∃z,Go.Sx.Sha.K0[j]?=some z/\C.int .u32 (.lit z)=c:=by
   rw[M0]at hj;exact Option.map_eq_some_iff.1 hj
  have hl:=(Ou.1 hz).1;rw[hc j hl,Ov,hz];rfl
set_option maxRecDepth 100000 in
theorem lifted(hx:(Qay 5).ok Tryz.prog gl)(os:Os)(started:os.Started)(H:Type)(enc:TypeId×Value->H)(F:Stop.Interp) :
  ReturnsInHanded {} Tryz.checked os 5 .any ((OpenSpec.ofChange Rows.suiteGroupSpec).preRow enc Tryz.prog Tryz.f5 Rows.suiteGroupRow.domain false Rows.suiteGroupRow.laid) (((OpenSpec.ofChange Rows.suiteGroupSpec).at F).post enc Tryz.prog Tryz.f5 false true false false):=by
 obtain⟨places,hwx⟩:=reads os enc
 refine returnsInHanded_of_row (C:=Tryz.checked) (s:=OpenSpec.ofChange Rows.suiteGroupSpec) own started (by kernel_rfl) Tryz.func5
  (witness_row_at (enc:=enc) (C:=Tryz.checked) false (Qh2 os) Zck rfl (by kernel_rfl) (by kernel_rfl) (by kernel_rfl)
   (OpenSpec.preRow_of_cond 8 hwx (by kernel_rfl) (fun k hk=>by cases hk) (by kernel_rfl) (Zlv os))) ?_
 intro W base args ds gs before hval0 hW _ _ _ hL _ _;have hg:=Xbt hL;have hval:∀(j:Nat) t v,Tryz.f5.params[j]?=some t->args[j]?=some v->Value.okWide Tryz.prog W .any base t v:=hval0;have hW':=hW;obtain⟨p,q,hA0,hV,rfl,hfz,hnd⟩:=hW;have hA:DataW.TrodAll enc Tryz.prog W 0 (fun _=>true) true Tryz.f5.params.toList args.toList ds p:=hA0;rw[Tryz.params5]at hA hval;obtain⟨v0,vs0,d0,ds0,p0,q0,hargs,rfl,rfl,h0,r0⟩:=trodAll_cons hA;obtain⟨v1,vs1,d1,ds1,p1,q1,rfl,rfl,rfl,h1,r1⟩:=trodAll_cons r0;obtain⟨v2,vs2,d2,ds2,p2,q2,rfl,rfl,rfl,h2,r2⟩:=trodAll_cons r1;obtain⟨v3,vs3,d3,ds3,p3,q3,rfl,rfl,rfl,h3,r3⟩:=trodAll_cons r2;obtain⟨v4,vs4,d4,ds4,p4,q4,rfl,rfl,rfl,h4,r4⟩:=trodAll_cons r3;obtain⟨rfl,rfl,rfl⟩:=trodAll_nil r4;obtain rfl:args=#[v0,v1,v2,v3,v4]:=by cases args;simp_all
 obtain⟨rfl,rfl⟩:=trodVars_none hV;have lt1:∀x∈p1,x.block<W.heap.size:=by obtain⟨m,hm⟩:=h1;exact DataW.trod_lt m _ _ _ hm
 have lt2:∀x∈p2,x.block<W.heap.size:=by obtain⟨m,hm⟩:=h2;exact DataW.trod_lt m _ _ _ hm
 have lt3:∀x∈p3,x.block<W.heap.size:=by obtain⟨m,hm⟩:=h3;exact DataW.trod_lt m _ _ _ hm
 have lt4:∀x∈p4,x.block<W.heap.size:=by obtain⟨m,hm⟩:=h4;exact DataW.trod_lt m _ _ _ hm
 obtain⟨a0,rfl,rfl,rfl,w0⟩:=open_int Tryz.underlying22 (hval 0 22 v0 rfl rfl) h0;obtain⟨a1,x1,y1,rfl⟩:=Qf7 Tryz.underlying28 Tryz.underlying26 (by kernel_rfl) (by kernel_rfl) (hval 1 28 v1 rfl rfl) h1;obtain⟨a2,x2,y2,rfl⟩:=Qf7 Tryz.underlying28 Tryz.underlying26 (by kernel_rfl) (by kernel_rfl) (hval 2 28 v2 rfl rfl) h2;obtain⟨a3,x3,y3,rfl⟩:=Qf7 Tryz.underlying28 Tryz.underlying26 (by kernel_rfl) (by kernel_rfl) (hval 3 28 v3 rfl rfl) h3;obtain⟨a4,x4,y4,rfl⟩:=Qf7 Tryz.underlying28 Tryz.underlying26 (by kernel_rfl) (by kernel_rfl) (hval 4 28 v4 rfl rfl) h4;clear hA0 hval0;refine(walk hx W hg a0 w0 a1 ⟨x1,y1⟩ a2 ⟨x2,y2⟩ a3 ⟨x3,y3⟩ a4 ⟨x4,y4⟩).mono fun e W' ⟨he,bel⟩=>?_
 subst he;exact⟨_,rfl,_,_,_,[],_,[],hW',trodAll_mk1 (shut_bool Tryz.underlying4 _),(trodAll_cons_mk (shut_int Tryz.underlying22 w0) (trodAll_cons_mk (Below.trod laidOut (by kernel_rfl) (of_decide_eq_true (by kernel_rfl)) h1 bel lt1) (trodAll_cons_mk (Below.trod laidOut (by kernel_rfl) (of_decide_eq_true (by kernel_rfl)) h2 bel lt2) (trodAll_cons_mk (Below.trod laidOut (by kernel_rfl) (of_decide_eq_true (by kernel_rfl)) h3 bel lt3) (trodAll_cons_mk (Below.trod laidOut (by kernel_rfl) (of_decide_eq_true (by kernel_rfl)) h4 bel lt4) trodAll_mk0))))),rfl,bel.frame _,fun h=>by cases h⟩
theorem said(hx:(Qay 5).ok Tryz.prog gl):Rows.SuiteGroupSaid :=
 OpenClaim.holds_of_cond 5 Tryz.f5 rfl rfl rfl rfl rfl rfl rfl ⟨rfl,rfl,rfl,rfl,rfl⟩ rfl rfl rfl rfl rfl (by kernel_rfl) Tryz.func5 (by kernel_rfl)
  (of_decide_eq_true (by kernel_rfl)) (by unfold Func.isWrapper;first|(rw[if_pos (by decide +kernel)];kernel_rfl)|(rw[if_neg (by decide +kernel)];exact⟨rfl,rfl⟩))
  (fun os started H enc _ F=>by rw[OpenClaim.pre_eq_preRow];exact lifted hx os started H enc F)
theorem plain(f:FuncId)(fn:Func)(hf:Tryz.pinned.checked.prog.funcNamed "reliquary/reliquarylaw11.SuiteGroup" = some f)(hfn:Tryz.pinned.checked.prog.funcs[f]?=some fn) :
  false=Tryz.pinned.checked.prog.looks []/\∀(j:Nat) t,fn.params[j]?=some t->Tryz.pinned.checked.prog.wantsStandIn t=false:=by
 obtain rfl:f=5:=Option.some.inj ((show Tryz.prog.funcNamed "reliquary/reliquarylaw11.SuiteGroup" = some 5 by kernel_rfl).symm.trans hf) |>.symm;obtain rfl:fn=Tryz.f5:=(Option.some.inj (Tryz.func5.symm.trans hfn)).symm;refine⟨by kernel_rfl,fun j t ht=>?_⟩;rw[Tryz.params5]at ht;have hmem:=Array.mem_of_getElem? ht;simp only[List.mem_toArray,O6,Mx,or_false]at hmem;rcases hmem with rfl|rfl|rfl|rfl|rfl
 ·exact(show Tryz.prog.wantsStandIn 22=false by kernel_rfl)
 ·exact(show Tryz.prog.wantsStandIn 28=false by kernel_rfl)
 ·exact(show Tryz.prog.wantsStandIn 28=false by kernel_rfl)
 ·exact(show Tryz.prog.wantsStandIn 28=false by kernel_rfl)
 ·exact(show Tryz.prog.wantsStandIn 28=false by kernel_rfl)
end Go.Proofs.YtlloonffibabfaaGreatDoor.suiteGroupDone
namespace Go.Proofs.YtlloonffibabfaaGreatDoor
open Go Go.Sx
theorem Qkc(hx:(Qay 5).ok Tryz.prog gl):Rows.SuiteGroupCardSaid :=
 Claim7.holds_tied_plain_at .later [] _ _ _ _ (suiteGroupDone.said hx) (fun _ h=>by cases h) (by kernel_rfl) (fun _ h=>by cases h) suiteGroup_row_tie rfl ⟨rfl,rfl⟩ (by kernel_rfl) rfl suiteGroupDone.plain (by kernel_rfl)
end Go.Proofs.YtlloonffibabfaaGreatDoor
