/- Part Gr of the proof. -/
import Derived.Test.YtaablkpongjlkaaGreatGd
import Derived.Test.YtaablkpongjlkaaGreatGq
import Derived.Test.YtaablkpongjlkaaGreatRows
import Derived.OpenShut
import Derived.Carry
import Derived.WalkKit
set_option linter.unusedVariables false
set_option linter.unusedSimpArgs false
namespace Go.Proofs.YtaablkpongjlkaaGreat.suiteSigsDone
open Go Go.Sx Go.ChangeShapes Go.WideShapes Go.ChangeAt Go.RowKit
theorem sig9 {xs:List Int} (h:lhas lsSg xs):∃ s a b c d z x y w,xs=[s,a,b,c,d,z,x,y,w]:=by
 match xs,h with
 | [s,a,b,c,d,z,x,y,w],_=>exact ⟨s,a,b,c,d,z,x,y,w,rfl⟩
theorem own:ownKnob Tryz.prog.godebug=none:=by kernel_rfl
theorem laidOut:laidOutB Tryz.prog=true:=by kernel_rfl
theorem walk (hx:(kSigs11 3).ok Tryz.prog) (w:World) (a0s a0a a0b a0c a0d a0z a0x a0y a0w:Int) (hx0:lhas lsSg [a0s,a0a,a0b,a0c,a0d,a0z,a0x,a0y,a0w]) (a1s a1a a1b a1c a1d a1z a1x a1y a1w:Int) (hx1:lhas lsSg [a1s,a1a,a1b,a1c,a1d,a1z,a1x,a1y,a1w]) (a2:Int) (ha2:0<=a2/\a2<N384) (a3:Int) (wa3:(Lit.int .i64 a3).wf=true) (u4:Value) (l4:List Int) (hl4:(LK.int .u8).hasL l4) (hr4:RoRow w w (.int .u8) u4 l4) :
  Calls Tryz.prog 3 #[.agg (lvals lsSg [a0s,a0a,a0b,a0c,a0d,a0z,a0x,a0y,a0w]).toArray,.agg (lvals lsSg [a1s,a1a,a1b,a1c,a1d,a1z,a1x,a1y,a1w]).toArray,.agg (limbs a2).toArray,.int .i64 a3,u4] w fun e w'=>e=.returned (.bool true)/\Below w.heap.size w w':=by
 have h:=hx w [.agg (lvals lsSg [a0s,a0a,a0b,a0c,a0d,a0z,a0x,a0y,a0w]).toArray,.agg (lvals lsSg [a1s,a1a,a1b,a1c,a1d,a1z,a1x,a1y,a1w]).toArray,.agg (limbs a2).toArray,.int .i64 a3,u4] [a0s,a0a,a0b,a0c,a0d,a0z,a0x,a0y,a0w,a1s,a1a,a1b,a1c,a1d,a1z,a1x,a1y,a1w,a2,a3,enc l4]
  ⟨hx0,rfl,hx1,rfl,⟨ha2,trivial⟩,by simp [Sh.rel,lvals,Sh.leaves,lcount,L.n],⟨has_i64' wa3,trivial⟩,rfl,⟨(show (LK.int .u8).hasL (dec (enc l4)) by rw [dec_enc];exact hl4),trivial⟩,(show RoRow w w (.int .u8) u4 (dec (enc l4)) by rw [dec_enc];exact hr4),rfl,rfl⟩ trivial
 refine h.2.mono fun e w' ⟨vs,he,ho,hb⟩=>⟨?_,hb⟩
 obtain ⟨v,rfl⟩:∃ v,vs=[v]:=by
  match vs,ho with
  | [v],_=>exact ⟨v,rfl⟩
 have h1:[v]=[Value.bool true]:=ho.2.1
 rw [he,show v=Value.bool true from List.head_eq_of_cons_eq h1]
 rfl
set_option maxRecDepth 100000 in
theorem lifted (hx:(kSigs11 3).ok Tryz.prog) (os:Os) (started:os.Started) (H:Type) (enc:TypeId×Value->H) :
  ReturnsInHanded {} Tryz.checked os 3 .any (Rows.suiteSigsSpec.pre6 enc Tryz.prog Tryz.f3 Rows.suiteSigsRow.domain false) (Rows.suiteSigsSpec.post enc Tryz.prog Tryz.f3 false true false false):=by
 refine returnsInHanded_of_change (C:=Tryz.checked) own started (by kernel_rfl) Tryz.func3
  (ChangeSpec.witness6 (enc:=enc) (C:=Tryz.checked) false ⟨#[],#[.agg #[.int .i64 0,.int .u64 0,.int .u64 0,.int .u64 0,.int .u64 0,.int .u64 0,.int .u64 0,.int .u64 0,.int .u64 0,.int .u64 0,.int .u64 0,.int .u64 0,.int .u64 0,.int .u64 0,.int .u64 0,.int .u64 0,.int .u64 0,.int .u64 0,.int .u64 0,.int .u64 0,.int .u64 0,.int .u64 0,.int .u64 0,.int .u64 0,.int .u64 0,.bool false,.int .u64 0,.int .u64 0,.bool false],.agg #[.int .i64 0,.int .u64 0,.int .u64 0,.int .u64 0,.int .u64 0,.int .u64 0,.int .u64 0,.int .u64 0,.int .u64 0,.int .u64 0,.int .u64 0,.int .u64 0,.int .u64 0,.int .u64 0,.int .u64 0,.int .u64 0,.int .u64 0,.int .u64 0,.int .u64 0,.int .u64 0,.int .u64 0,.int .u64 0,.int .u64 0,.int .u64 0,.int .u64 0,.bool false,.int .u64 0,.int .u64 0,.bool false],.agg #[.int .u64 0,.int .u64 0,.int .u64 0,.int .u64 0,.int .u64 0,.int .u64 0],.int .i64 0,.slice none 0 0],[]⟩ 8 (by kernel_rfl) (by kernel_rfl) (by kernel_rfl) (by kernel_rfl)) ?_
 intro W base args ds gs before hval0 hW hcnd _
 have hval:∀ (j:Nat) t v,Tryz.f3.params[j]?=some t->args[j]?=some v->Value.okWide Tryz.prog W .any base t v:=hval0
 have hW':=hW
 obtain ⟨p,q,hA0,hV,rfl,hfz,hnd⟩:=hW
 have hA:DataW.TrodAll enc Tryz.prog W 0 (fun _=>true) true Tryz.f3.params.toList args.toList ds p:=hA0
 rw [Tryz.params3] at hA hval
 obtain ⟨v0,vs0,d0,ds0,p0,q0,hargs,rfl,rfl,h0,r0⟩:=trodAll_cons hA
 obtain ⟨v1,vs1,d1,ds1,p1,q1,rfl,rfl,rfl,h1,r1⟩:=trodAll_cons r0
 obtain ⟨v2,vs2,d2,ds2,p2,q2,rfl,rfl,rfl,h2,r2⟩:=trodAll_cons r1
 obtain ⟨v3,vs3,d3,ds3,p3,q3,rfl,rfl,rfl,h3,r3⟩:=trodAll_cons r2
 obtain ⟨v4,vs4,d4,ds4,p4,q4,rfl,rfl,rfl,h4,r4⟩:=trodAll_cons r3
 obtain ⟨rfl,rfl,rfl⟩:=trodAll_nil r4
 obtain rfl:args=#[v0,v1,v2,v3,v4]:=by cases args;simp_all
 obtain ⟨rfl,rfl⟩:=trodVars_none hV
 have lt0:∀ x∈p0,x.block<W.heap.size:=by obtain ⟨m,hm⟩:=h0;exact DataW.trod_lt m _ _ _ hm
 have lt1:∀ x∈p1,x.block<W.heap.size:=by obtain ⟨m,hm⟩:=h1;exact DataW.trod_lt m _ _ _ hm
 have lt2:∀ x∈p2,x.block<W.heap.size:=by obtain ⟨m,hm⟩:=h2;exact DataW.trod_lt m _ _ _ hm
 have lt4:∀ x∈p4,x.block<W.heap.size:=by obtain ⟨m,hm⟩:=h4;exact DataW.trod_lt m _ _ _ hm
 obtain ⟨x0,hx0,rfl⟩:=open_flat (n:=5) (ls:=lsSg) (by kernel_rfl) (by kernel_rfl) (hval 0 33 v0 rfl rfl) h0
 obtain ⟨a0s,a0a,a0b,a0c,a0d,a0z,a0x,a0y,a0w,rfl⟩:=sig9 hx0
 obtain ⟨x1,hx1,rfl⟩:=open_flat (n:=5) (ls:=lsSg) (by kernel_rfl) (by kernel_rfl) (hval 1 33 v1 rfl rfl) h1
 obtain ⟨a1s,a1a,a1b,a1c,a1d,a1z,a1x,a1y,a1w,rfl⟩:=sig9 hx1
 obtain ⟨a2,x2,y2,rfl⟩:=open_num Tryz.underlying25 Tryz.underlying23 (by kernel_rfl) (by kernel_rfl) (hval 2 25 v2 rfl rfl) h2
 obtain ⟨a3,rfl,rfl,rfl,w3⟩:=open_int Tryz.underlying22 (hval 3 22 v3 rfl rfl) h3
 obtain ⟨l4,hl4,hr4⟩:=open_bytes Tryz.underlying34 Tryz.underlying5 (by kernel_rfl) (hval 4 34 v4 rfl rfl) h4
 clear hA0 hval0
 refine (walk hx W a0s a0a a0b a0c a0d a0z a0x a0y a0w hx0 a1s a1a a1b a1c a1d a1z a1x a1y a1w hx1 a2 ⟨x2,y2⟩ a3 w3 v4 l4 hl4 hr4).mono fun e W' ⟨he,bel⟩=>?_
 subst he
 exact ⟨_,rfl,_,_,_,[],_,[],hW',trodAll_mk1 (shut_bool Tryz.underlying4 _),(trodAll_cons_mk (Below.trod laidOut (by kernel_rfl) (of_decide_eq_true (by kernel_rfl)) h0 bel lt0) (trodAll_cons_mk (Below.trod laidOut (by kernel_rfl) (of_decide_eq_true (by kernel_rfl)) h1 bel lt1) (trodAll_cons_mk (Below.trod laidOut (by kernel_rfl) (of_decide_eq_true (by kernel_rfl)) h2 bel lt2) (trodAll_cons_mk (shut_int Tryz.underlying22 w3) (trodAll_cons_mk (Below.trod laidOut (by kernel_rfl) (of_decide_eq_true (by kernel_rfl)) h4 bel lt4) trodAll_mk0))))),rfl,bel.frame _,fun h=>by cases h⟩
theorem closedK:joinedFacts Tryz.pinned.checked.prog 3 Tryz.f3 Rows.suiteSigsSpec Rows.suiteSigsRow=true:=by kernel_rfl
theorem namedK:Tryz.pinned.checked.prog.funcNamed Rows.suiteSigsRow.func=some 3:=by kernel_rfl
theorem instK:Tryz.f3.isInstance Tryz.pinned.checked.prog Rows.suiteSigsRow.origin Rows.suiteSigsRow.targs:=of_decide_eq_true (by kernel_rfl)
theorem over (hx:(kSigs11 3).ok Tryz.prog):Rows.suiteSigsRow.holds Tryz.pinned (OpenSpec.ofChange Rows.suiteSigsSpec) :=
 OpenClaim.holds_of_wide 3 Tryz.f3 rfl rfl rfl rfl rfl rfl rfl ⟨rfl,rfl,rfl,rfl,rfl⟩ rfl rfl rfl rfl rfl namedK Tryz.func3 closedK
  instK (by unfold Func.isWrapper;first | (rw [if_pos (by decide +kernel)];kernel_rfl) | (rw [if_neg (by decide +kernel)];exact ⟨rfl,rfl⟩))
  (fun os started H enc _=>lifted hx os started H enc)
end Go.Proofs.YtaablkpongjlkaaGreat.suiteSigsDone
