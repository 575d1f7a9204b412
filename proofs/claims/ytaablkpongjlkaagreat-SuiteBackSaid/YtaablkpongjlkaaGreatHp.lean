/- Part Hp of the proof. -/
import Derived.Test.YtaablkpongjlkaaGreatHd
import Derived.Test.YtaablkpongjlkaaGreatHo
import Derived.Test.YtaablkpongjlkaaGreatRows
import Derived.OpenShut
import Derived.Carry
import Derived.WalkKit
set_option linter.unusedVariables false
set_option linter.unusedSimpArgs false
namespace Go.Proofs.YtaablkpongjlkaaGreat.suiteBackDone
open Go Go.Sx Go.ChangeShapes Go.WideShapes Go.ChangeAt Go.RowKit
theorem sig9 {xs:List Int} (h:lhas lsSg xs):∃ s a b c d z x y w,xs=[s,a,b,c,d,z,x,y,w]:=by
 match xs,h with
 | [s,a,b,c,d,z,x,y,w],_=>exact ⟨s,a,b,c,d,z,x,y,w,rfl⟩
theorem key7 {xs:List Int} (h:lhas lsKey xs):∃ s p q z x y w,xs=[s,p,q,z,x,y,w]:=by
 match xs,h with
 | [s,p,q,z,x,y,w],_=>exact ⟨s,p,q,z,x,y,w,rfl⟩
theorem own:ownKnob Tryz.prog.godebug=none:=by kernel_rfl
theorem laidOut:laidOutB Tryz.prog=true:=by kernel_rfl
theorem walk (hx:(kBack11 4).ok Tryz.prog) (w:World) (a0s a0p a0q a0z a0x a0y a0w:Int) (hx0:lhas lsKey [a0s,a0p,a0q,a0z,a0x,a0y,a0w]) (a1s a1a a1b a1c a1d a1z a1x a1y a1w:Int) (hx1:lhas lsSg [a1s,a1a,a1b,a1c,a1d,a1z,a1x,a1y,a1w]) :
  Calls Tryz.prog 4 #[.agg (lvals lsKey [a0s,a0p,a0q,a0z,a0x,a0y,a0w]).toArray,.agg (lvals lsSg [a1s,a1a,a1b,a1c,a1d,a1z,a1x,a1y,a1w]).toArray] w fun e w'=>e=.returned (.bool true)/\Below w.heap.size w w':=by
 have h:=hx w [.agg (lvals lsKey [a0s,a0p,a0q,a0z,a0x,a0y,a0w]).toArray,.agg (lvals lsSg [a1s,a1a,a1b,a1c,a1d,a1z,a1x,a1y,a1w]).toArray] [a0s,a0p,a0q,a0z,a0x,a0y,a0w,a1s,a1a,a1b,a1c,a1d,a1z,a1x,a1y,a1w]
  ⟨hx0,rfl,hx1,rfl,rfl,rfl⟩ trivial
 refine h.2.mono fun e w' ⟨vs,he,ho,hb⟩=>⟨?_,hb⟩
 obtain ⟨v,rfl⟩:∃ v,vs=[v]:=by
  match vs,ho with
  | [v],_=>exact ⟨v,rfl⟩
 have h1:[v]=[Value.bool true]:=ho.2.1
 rw [he,show v=Value.bool true from List.head_eq_of_cons_eq h1]
 rfl
set_option maxRecDepth 100000 in
theorem lifted (hx:(kBack11 4).ok Tryz.prog) (os:Os) (started:os.Started) (H:Type) (enc:TypeId×Value->H) :
  ReturnsInHanded {} Tryz.checked os 4 .any (Rows.suiteBackSpec.pre6 enc Tryz.prog Tryz.f4 Rows.suiteBackRow.domain false) (Rows.suiteBackSpec.post enc Tryz.prog Tryz.f4 false true false false):=by
 refine returnsInHanded_of_change (C:=Tryz.checked) own started (by kernel_rfl) Tryz.func4
  (ChangeSpec.witness6 (enc:=enc) (C:=Tryz.checked) false ⟨#[],#[.agg #[.int .i64 0,.int .u64 0,.int .u64 0,.int .u64 0,.int .u64 0,.int .u64 0,.int .u64 0,.int .u64 0,.int .u64 0,.int .u64 0,.int .u64 0,.int .u64 0,.int .u64 0,.bool false,.int .u64 0,.int .u64 0,.bool false],.agg #[.int .i64 0,.int .u64 0,.int .u64 0,.int .u64 0,.int .u64 0,.int .u64 0,.int .u64 0,.int .u64 0,.int .u64 0,.int .u64 0,.int .u64 0,.int .u64 0,.int .u64 0,.int .u64 0,.int .u64 0,.int .u64 0,.int .u64 0,.int .u64 0,.int .u64 0,.int .u64 0,.int .u64 0,.int .u64 0,.int .u64 0,.int .u64 0,.int .u64 0,.bool false,.int .u64 0,.int .u64 0,.bool false]],[]⟩ 8 (by kernel_rfl) (by kernel_rfl) (by kernel_rfl) (by kernel_rfl)) ?_
 intro W base args ds gs before hval0 hW hcnd _
 have hval:∀ (j:Nat) t v,Tryz.f4.params[j]?=some t->args[j]?=some v->Value.okWide Tryz.prog W .any base t v:=hval0
 have hW':=hW
 obtain ⟨p,q,hA0,hV,rfl,hfz,hnd⟩:=hW
 have hA:DataW.TrodAll enc Tryz.prog W 0 (fun _=>true) true Tryz.f4.params.toList args.toList ds p:=hA0
 rw [Tryz.params4] at hA hval
 obtain ⟨v0,vs0,d0,ds0,p0,q0,hargs,rfl,rfl,h0,r0⟩:=trodAll_cons hA
 obtain ⟨v1,vs1,d1,ds1,p1,q1,rfl,rfl,rfl,h1,r1⟩:=trodAll_cons r0
 obtain ⟨rfl,rfl,rfl⟩:=trodAll_nil r1
 obtain rfl:args=#[v0,v1]:=by cases args;simp_all
 obtain ⟨rfl,rfl⟩:=trodVars_none hV
 have lt0:∀ x∈p0,x.block<W.heap.size:=by obtain ⟨m,hm⟩:=h0;exact DataW.trod_lt m _ _ _ hm
 have lt1:∀ x∈p1,x.block<W.heap.size:=by obtain ⟨m,hm⟩:=h1;exact DataW.trod_lt m _ _ _ hm
 obtain ⟨x0,hx0,rfl⟩:=open_flat (n:=4) (ls:=lsKey) (by kernel_rfl) (by kernel_rfl) (hval 0 53 v0 rfl rfl) h0
 obtain ⟨a0s,a0p,a0q,a0z,a0x,a0y,a0w,rfl⟩:=key7 hx0
 obtain ⟨x1,hx1,rfl⟩:=open_flat (n:=5) (ls:=lsSg) (by kernel_rfl) (by kernel_rfl) (hval 1 33 v1 rfl rfl) h1
 obtain ⟨a1s,a1a,a1b,a1c,a1d,a1z,a1x,a1y,a1w,rfl⟩:=sig9 hx1
 clear hA0 hval0
 refine (walk hx W a0s a0p a0q a0z a0x a0y a0w hx0 a1s a1a a1b a1c a1d a1z a1x a1y a1w hx1).mono fun e W' ⟨he,bel⟩=>?_
 subst he
 exact ⟨_,rfl,_,_,_,[],_,[],hW',trodAll_mk1 (shut_bool Tryz.underlying4 _),(trodAll_cons_mk (Below.trod laidOut (by kernel_rfl) (of_decide_eq_true (by kernel_rfl)) h0 bel lt0) (trodAll_cons_mk (Below.trod laidOut (by kernel_rfl) (of_decide_eq_true (by kernel_rfl)) h1 bel lt1) trodAll_mk0)),rfl,bel.frame _,fun h=>by cases h⟩
theorem closedK:joinedFacts Tryz.pinned.checked.prog 4 Tryz.f4 Rows.suiteBackSpec Rows.suiteBackRow=true:=by kernel_rfl
theorem namedK:Tryz.pinned.checked.prog.funcNamed Rows.suiteBackRow.func=some 4:=by kernel_rfl
theorem instK:Tryz.f4.isInstance Tryz.pinned.checked.prog Rows.suiteBackRow.origin Rows.suiteBackRow.targs:=of_decide_eq_true (by kernel_rfl)
theorem over (hx:(kBack11 4).ok Tryz.prog):Rows.suiteBackRow.holds Tryz.pinned (OpenSpec.ofChange Rows.suiteBackSpec) :=
 OpenClaim.holds_of_wide 4 Tryz.f4 rfl rfl rfl rfl rfl rfl rfl ⟨rfl,rfl,rfl,rfl,rfl⟩ rfl rfl rfl rfl rfl namedK Tryz.func4 closedK
  instK (by unfold Func.isWrapper;first | (rw [if_pos (by decide +kernel)];kernel_rfl) | (rw [if_neg (by decide +kernel)];exact ⟨rfl,rfl⟩))
  (fun os started H enc _=>lifted hx os started H enc)
end Go.Proofs.YtaablkpongjlkaaGreat.suiteBackDone
