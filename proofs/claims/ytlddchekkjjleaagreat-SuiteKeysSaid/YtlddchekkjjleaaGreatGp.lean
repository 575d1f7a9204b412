/- Part Gp of the proof. -/
import Derived.Test.YtlddchekkjjleaaGreatGa
import Derived.ProofKit
import Derived.OpenShut
import Derived.WideKeyArr2
import Derived.Carry
import Derived.Test.YtlddchekkjjleaaGreatGb
import Derived.Test.YtlddchekkjjleaaGreatGc
import Derived.Deep.Slices
set_option linter.unusedVariables false
set_option linter.unusedSimpArgs false
namespace Go.Sx
open Go Go.ChangeShapes Go.WideShapes Go.RowKit
set_option linter.unusedVariables false
variable {H:Type} {enc:TypeId × Value → H} {P:Program} {w:World} {base:Nat} {spare:Nat → Bool} {held:Bool}
theorem mapM_each {α β:Type} {f:α → Option β}:∀ (L:List α) (ys:List β),L.mapM f=some ys → ∀ i ∈ L,∃ y,f i=some y
 | [],_,_,i,hi=>by cases hi
 | a :: L,ys,h,i,hi=>by
  rw [List.mapM_cons] at h
  simp only [bind,Option.bind_eq_some_iff,pure,Option.some.injEq] at h
  obtain ⟨y,hy,zs,hz,rfl⟩:=h
  rcases List.mem_cons.1 hi with rfl | hi
  ·exact ⟨y,hy⟩
  ·exact mapM_each L zs hz i hi
theorem int_of_wf {n:Int} (h:(Lit.int .u64 n).wf=true):0 ≤ n ∧ n < 18446744073709551616:=by
 simp [Lit.wf] at h
 have a:IntKind.u64.min=0:=by decide +kernel
 have b:IntKind.u64.max=18446744073709551615:=by decide +kernel
 omega
theorem arr_ints {t e:TypeId} {n:Nat} {k:IntKind} (ht:P.underlying t=some (.array n e)) (he:P.underlying e=some (.int k)) (hce:P.cellsOf e=1) (hct:P.cellsOf t=n)
  {r:Reach} {b0:Nat} {v:Value} {d:DataW H} {p:List MemPlace} (hval:Value.okWide P w r b0 t v) (hd:DataW.Trod enc P w base spare held t v d p) :
  ∃ zs:List Int,zs.length=n ∧ v=.agg (zs.map fun z=>.int k z).toArray ∧ ∀ z ∈ zs,(Lit.int k z).wf=true:=by
 simp only [Value.okWide,ht] at hval
 obtain ⟨cs,rfl,h2,_⟩:=hval
 obtain ⟨fuel,hf⟩:=hd
 cases fuel with
 | zero=>simp [DataW.trod] at hf
 | succ m =>
  rw [DataW.trod_step] at hf
  unfold DataW.trodStep at hf
  simp only [ht,Value.cells] at hf
  rw [if_pos (by rw [hct]; simpa [hct] using h2)] at hf
  simp only [Option.map_eq_some_iff] at hf
  obtain ⟨ys,hy,_⟩:=hf
  have hall:=mapM_each _ _ hy
  have hz:∀ i,i < n → ∃ z,cs.toList[i]?=some (.int k z) ∧ (Lit.int k z).wf=true:=by
   intro i hi
   obtain ⟨y,hy⟩:=hall i (List.mem_range.2 hi)
   obtain ⟨z,e1,_,wz⟩:=DataW.trod_int he hy
   rw [hce,Nat.mul_one] at e1
   refine ⟨z,?_,wz⟩
   have:((cs.toList.drop i).take 1)[0]?=some (.int k z):=by rw [e1]; rfl
   simpa using this
  have hl:cs.toList.length=n:=by simpa [hct] using h2
  generalize hL:cs.toList=L at hz hl
  have hcs:cs=L.toArray:=by rw [← hL]
  subst hcs
  clear hL h2 hy hall
  have key:∀ (L:List Value),(∀ i,i < L.length → ∃ z,L[i]?=some (.int k z) ∧ (Lit.int k z).wf=true) → ∃ zs:List Int,zs.length=L.length ∧ L=zs.map (fun z=>.int k z) ∧ ∀ z ∈ zs,(Lit.int k z).wf=true:=by
   intro L
   induction L with
   | nil=>exact fun _=>⟨[],rfl,rfl,fun _ h=>by cases h⟩
   | cons a L ih =>
    intro h
    obtain ⟨z,e0,wz⟩:=h 0 (by simp)
    simp at e0
    subst e0
    obtain ⟨zs,h1,h2,h3⟩:=ih fun i hi=>by have:=h (i + 1) (by simpa using hi); simpa using this
    exact ⟨z :: zs,by simp [h1],by rw [h2]; rfl,fun y hy=>by rcases List.mem_cons.1 hy with rfl | hy; exact wz; exact h3 _ hy⟩
  obtain ⟨zs,h1,h2,h3⟩:=key L (by rw [hl]; exact hz)
  exact ⟨zs,by rw [h1,hl],by rw [h2],h3⟩
theorem limbs_six (z0 z1 z2 z3 z4 z5:Int) (h0:0 ≤ z0 ∧ z0 < 18446744073709551616) (h1:0 ≤ z1 ∧ z1 < 18446744073709551616) (h2:0 ≤ z2 ∧ z2 < 18446744073709551616) (h3:0 ≤ z3 ∧ z3 < 18446744073709551616) (h4:0 ≤ z4 ∧ z4 < 18446744073709551616) (h5:0 ≤ z5 ∧ z5 < 18446744073709551616) :
  ∃ x:Int,0 ≤ x ∧ x < N384 ∧ limbs x=[.int .u64 z0,.int .u64 z1,.int .u64 z2,.int .u64 z3,.int .u64 z4,.int .u64 z5]:=by
 refine ⟨z0 + 18446744073709551616 * z1 + 340282366920938463463374607431768211456 * z2 + 6277101735386680763835789423207666416102355444464034512896 * z3 + 115792089237316195423570985008687907853269984665640564039457584007913129639936 * z4 + 2135987035920910082395021706169552114602704522356652769947041607822219725780640550022962086936576 * z5,by omega,by simp only [N384]; omega,?_⟩
 have q0:p64 0=1:=by decide +kernel
 have q1:p64 1=18446744073709551616:=by decide +kernel
 have q2:p64 2=340282366920938463463374607431768211456:=by decide +kernel
 have q3:p64 3=6277101735386680763835789423207666416102355444464034512896:=by decide +kernel
 have q4:p64 4=115792089237316195423570985008687907853269984665640564039457584007913129639936:=by decide +kernel
 have q5:p64 5=2135987035920910082395021706169552114602704522356652769947041607822219725780640550022962086936576:=by decide +kernel
 simp only [limbs,List.range,List.range.loop,List.map,q0,q1,q2,q3,q4,q5]
 simp only [List.cons.injEq,Value.int.injEq,true_and,and_true]
 omega
theorem open_num {t e:TypeId} (ht:P.underlying t=some (.array 6 e)) (he:P.underlying e=some (.int .u64)) (hce:P.cellsOf e=1) (hct:P.cellsOf t=6)
  {r:Reach} {b0:Nat} {v:Value} {d:DataW H} {p:List MemPlace} (hval:Value.okWide P w r b0 t v) (hd:DataW.Trod enc P w base spare held t v d p) :
  ∃ x:Int,0 ≤ x ∧ x < N384 ∧ v=.agg (limbs x).toArray:=by
 obtain ⟨zs,hl,rfl,hw⟩:=arr_ints ht he hce hct hval hd
 match zs,hl,hw with
 | [z0,z1,z2,z3,z4,z5],_,hw =>
  obtain ⟨x,h1,h2,h3⟩:=limbs_six z0 z1 z2 z3 z4 z5 (int_of_wf (hw _ (by simp))) (int_of_wf (hw _ (by simp))) (int_of_wf (hw _ (by simp))) (int_of_wf (hw _ (by simp))) (int_of_wf (hw _ (by simp))) (int_of_wf (hw _ (by simp)))
  exact ⟨x,h1,h2,by rw [h3]; rfl⟩
end Go.Sx

namespace Go.Sx
open Go Go.ChangeShapes Go.WideShapes Go.RowKit
set_option linter.unusedVariables false
variable {H:Type} {enc':TypeId × Value → H} {P:Program} {w:World} {base:Nat} {spare:Nat → Bool} {held:Bool}
theorem arr_cells {t e:TypeId} {n:Nat} {k:IntKind} (ht:P.underlying t=some (.array n e)) (he:P.underlying e=some (.int k)) (hce:P.cellsOf e=1) (hct:P.cellsOf t=n)
  {m:Nat} {cs:List Value} {d:DataW H × List MemPlace} (hf:DataW.trod enc' P w base spare held m t cs=some d) (hl:cs.length=n) :
  ∃ zs:List Int,zs.length=n ∧ cs=zs.map (fun z=>.int k z) ∧ ∀ z ∈ zs,(Lit.int k z).wf=true:=by
 cases m with
 | zero=>simp [DataW.trod] at hf
 | succ m =>
  rw [DataW.trod_step] at hf
  unfold DataW.trodStep at hf
  simp only [ht] at hf
  rw [if_pos (by rw [hct]; exact hl)] at hf
  simp only [Option.map_eq_some_iff] at hf
  obtain ⟨ys,hy,_⟩:=hf
  have hall:=mapM_each _ _ hy
  have hz:∀ i,i < n → ∃ z,cs[i]?=some (.int k z) ∧ (Lit.int k z).wf=true:=by
   intro i hi
   obtain ⟨y,hy⟩:=hall i (List.mem_range.2 hi)
   obtain ⟨z,e1,_,wz⟩:=DataW.trod_int he hy
   rw [hce,Nat.mul_one] at e1
   refine ⟨z,?_,wz⟩
   have:((cs.drop i).take 1)[0]?=some (.int k z):=by rw [e1]; rfl
   simpa using this
  have key:∀ (L:List Value),(∀ i,i < L.length → ∃ z,L[i]?=some (.int k z) ∧ (Lit.int k z).wf=true) → ∃ zs:List Int,zs.length=L.length ∧ L=zs.map (fun z=>.int k z) ∧ ∀ z ∈ zs,(Lit.int k z).wf=true:=by
   intro L
   induction L with
   | nil=>exact fun _=>⟨[],rfl,rfl,fun _ h=>by cases h⟩
   | cons a L ih =>
    intro h
    obtain ⟨z,e0,wz⟩:=h 0 (by simp)
    simp at e0
    subst e0
    obtain ⟨zs,h1,h2,h3⟩:=ih fun i hi=>by have:=h (i + 1) (by simpa using hi); simpa using this
    exact ⟨z :: zs,by simp [h1],by rw [h2]; rfl,fun y hy=>by rcases List.mem_cons.1 hy with rfl | hy; exact wz; exact h3 _ hy⟩
  obtain ⟨zs,h1,h2,h3⟩:=key cs (by rw [hl]; exact hz)
  exact ⟨zs,by rw [h1,hl],h2,h3⟩
theorem num_cells {t e:TypeId} (ht:P.underlying t=some (.array 6 e)) (he:P.underlying e=some (.int .u64)) (hce:P.cellsOf e=1) (hct:P.cellsOf t=6)
  {m:Nat} {cs:List Value} {d:DataW H × List MemPlace} (hf:DataW.trod enc' P w base spare held m t cs=some d) (hl:cs.length=6) :
  ∃ x:Int,(0 ≤ x ∧ x < N384) ∧ cs=limbs x:=by
 obtain ⟨zs,hl,rfl,hw⟩:=arr_cells ht he hce hct hf hl
 match zs,hl,hw with
 | [z0,z1,z2,z3,z4,z5],_,hw =>
  obtain ⟨x,h1,h2,h3⟩:=limbs_six z0 z1 z2 z3 z4 z5 (int_of_wf (hw _ (by simp))) (int_of_wf (hw _ (by simp))) (int_of_wf (hw _ (by simp))) (int_of_wf (hw _ (by simp))) (int_of_wf (hw _ (by simp))) (int_of_wf (hw _ (by simp)))
  exact ⟨x,⟨h1,h2⟩,by rw [h3]; rfl⟩
end Go.Sx

namespace Go.Sx
open Go Go.ChangeShapes Go.WideShapes Go.RowKit
set_option linter.unusedVariables false
variable {H:Type} {enc':TypeId × Value → H} {P:Program} {w:World} {base:Nat} {spare:Nat → Bool} {held:Bool}
theorem has_i64' {a:Int} (wa:(Lit.int .i64 a).wf=true):has .i64 a:=by
 simp [Lit.wf] at wa
 have q1:IntKind.i64.min=-9223372036854775808:=by decide +kernel
 have q2:IntKind.i64.max=9223372036854775807:=by decide +kernel
 have l:lo .i64=-9223372036854775808:=by decide +kernel
 have h:hi .i64=9223372036854775807:=by decide +kernel
 simp only [has,l,h]
 omega
end Go.Sx

namespace Go.Sx
open Go Go.ChangeShapes Go.WideShapes Go.RowKit
set_option linter.unusedVariables false
variable {H:Type} {enc':TypeId × Value → H} {P:Program} {w:World} {base:Nat} {spare:Nat → Bool} {held:Bool}
theorem la_append:∀ (a b:List L) (xs ys:List Int),lhas a xs → lhas b ys → lhas (a ++ b) (xs ++ ys) ∧ lvals (a ++ b) (xs ++ ys)=lvals a xs ++ lvals b ys
 | [],b,[],ys,_,h=>⟨h,rfl⟩
 | [],b,x :: xs,ys,h,_=>h.elim
 | .cst c :: a,b,xs,ys,h,h'=>by
  obtain ⟨h1,h2⟩:=la_append a b xs ys h h'
  exact ⟨h1,by simp only [List.cons_append,lvals,h2]⟩
 | .int k :: a,b,[],ys,h,_=>h.elim
 | .int k :: a,b,x :: xs,ys,h,h'=>by
  obtain ⟨h1,h2⟩:=la_append a b xs ys h.2 h'
  exact ⟨⟨h.1,h1⟩,by simp only [List.cons_append,lvals,h2]⟩
 | .bool :: a,b,[],ys,h,_=>h.elim
 | .bool :: a,b,x :: xs,ys,h,h'=>by
  obtain ⟨h1,h2⟩:=la_append a b xs ys h.2 h'
  exact ⟨⟨h.1,h1⟩,by simp only [List.cons_append,lvals,h2]⟩
 | .num :: a,b,[],ys,h,_=>h.elim
 | .num :: a,b,x :: xs,ys,h,h'=>by
  obtain ⟨h1,h2⟩:=la_append a b xs ys h.2 h'
  exact ⟨⟨h.1,h1⟩,by simp only [List.cons_append,lvals,h2,List.append_assoc]⟩
 | .lst k :: a,b,[],ys,h,_=>h.elim
 | .lst k :: a,b,x :: xs,ys,h,h'=>by
  obtain ⟨h1,h2⟩:=la_append a b xs ys h.2 h'
  exact ⟨⟨h.1,h1⟩,by simp only [List.cons_append,lvals,h2]⟩
def isU64 (P:Program) (e:TypeId):Bool:=match P.underlying e with | some (.int .u64)=>true | _=>false
def fldLs (P:Program) (f:TypeId → Option (List L)):List Field → Nat → Option (List L)
 | [],_=>some []
 | x :: r,off=>if x.offset == off then match f x.type,fldLs P f r (off + P.cellsOf x.type) with
  | some a,some b=>some (a ++ b)
  | _,_=>none
  else none
def fldSz (P:Program):List Field → Nat
 | []=>0
 | x :: r=>P.cellsOf x.type + fldSz P r
def tyLs (P:Program):Nat → TypeId → Option (List L)
 | 0,_=>none
 | n + 1,t=>match P.underlying t with
  | some (.int k)=>if k == .i64 || k == .u64 then some [.int k] else none
  | some .bool=>some [.bool]
  | some (.array m e)=>if m == 6 && isU64 P e && P.cellsOf e == 1 && P.cellsOf t == 6 then some [.num]
   else if m == 2 && P.cellsOf t == P.cellsOf e + P.cellsOf e then match tyLs P n e with | some ls=>some (ls ++ ls) | none=>none else none
  | some (.struct fs)=>if fldSz P fs.toList == P.cellsOf t then fldLs P (tyLs P n) fs.toList 0 else none
  | _=>none
theorem has_u64' {a:Int} (wa:(Lit.int .u64 a).wf=true):has .u64 a:=by
 have:=int_of_wf wa
 have l:lo .u64=0:=by decide +kernel
 have h:hi .u64=18446744073709551615:=by decide +kernel
 simp only [has,l,h]
 omega
theorem fld_open {n:Nat} {m:Nat} (ih:∀ t ls,tyLs P n t=some ls → ∀ cs (d:DataW H × List MemPlace),DataW.trod enc' P w base spare held m t cs=some d → ∃ xs,lhas ls xs ∧ cs=lvals ls xs) :
  ∀ (fs:List Field) (off:Nat) (ls:List L) (cs:List Value),fldLs P (tyLs P n) fs off=some ls → cs.length=off + fldSz P fs → (∀ f ∈ fs,∃ d,DataW.trod enc' P w base spare held m f.type ((cs.drop f.offset).take (P.cellsOf f.type))=some d) → ∃ xs,lhas ls xs ∧ cs.drop off=lvals ls xs
 | [],off,ls,cs,h,hl,_=>by
  simp only [fldLs,Option.some.injEq] at h
  subst h
  exact ⟨[],trivial,by rw [List.drop_of_length_le (by simp [fldSz] at hl; omega)]; rfl⟩
 | x :: r,off,ls,cs,h,hl,hd=>by
  simp only [fldLs] at h
  split at h
  ·rename_i ho
   rw [beq_iff_eq] at ho
   split at h
   ·rename_i a b ha hb
    cases h
    simp only [fldSz] at hl
    obtain ⟨d,hd0⟩:=hd x (List.mem_cons_self ..)
    obtain ⟨xs,x1,x2⟩:=ih _ _ ha _ _ hd0
    obtain ⟨ys,y1,y2⟩:=fld_open ih r (off + P.cellsOf x.type) b cs hb (by omega) fun f hf=>hd f (List.mem_cons_of_mem _ hf)
    obtain ⟨k1,k2⟩:=la_append a b xs ys x1 y1
    refine ⟨xs ++ ys,k1,?_⟩
    rw [k2,← x2,← y2,ho,← List.drop_drop,List.take_append_drop]
   ·cases h
  ·cases h
theorem flat_open:∀ (n:Nat) (t:TypeId) (ls:List L),tyLs P n t=some ls → ∀ (m:Nat) (cs:List Value) (d:DataW H × List MemPlace),DataW.trod enc' P w base spare held m t cs=some d → ∃ xs,lhas ls xs ∧ cs=lvals ls xs
 | 0,_,_,h,_,_,_,_=>by cases h
 | n + 1,t,ls,h,m,cs,d,hd=>by
  simp only [tyLs] at h
  split at h
  ·rename_i k hk
   split at h
   ·rename_i hkk
    cases h
    obtain ⟨z,rfl,_,wz⟩:=DataW.trod_int hk hd
    simp only [Bool.or_eq_true,beq_iff_eq] at hkk
    rcases hkk with rfl | rfl
    ·exact ⟨[z],⟨has_i64' wz,trivial⟩,rfl⟩
    ·exact ⟨[z],⟨has_u64' wz,trivial⟩,rfl⟩
   ·cases h
  ·rename_i hk
   cases h
   obtain ⟨b,rfl,_⟩:=DataW.trod_bool hk hd
   cases b
   ·exact ⟨[0],⟨⟨by decide,by decide⟩,trivial⟩,rfl⟩
   ·exact ⟨[1],⟨⟨by decide,by decide⟩,trivial⟩,rfl⟩
  ·rename_i j e hk
   split at h
   ·rename_i hc
    simp only [Bool.and_eq_true,beq_iff_eq] at hc
    obtain ⟨⟨⟨h1,h2⟩,h3⟩,h4⟩:=hc
    cases h
    subst h1
    have he:P.underlying e=some (.int .u64):=by
     unfold isU64 at h2
     split at h2
     ·assumption
     ·cases h2
    obtain ⟨_,_,_,_,hl,_,_⟩:=DataW.trod_array hk hd
    obtain ⟨x,hx,rfl⟩:=num_cells hk he h3 h4 hd (by rw [hl,h4])
    exact ⟨[x],⟨hx,trivial⟩,by simp [lvals]⟩
   ·split at h
    ·rename_i hc
     simp only [Bool.and_eq_true,beq_iff_eq] at hc
     obtain ⟨h1,h2⟩:=hc
     subst h1
     split at h
     ·rename_i ls' hls
      cases h
      obtain ⟨ys,m',rfl,_,hl,hl2,hel⟩:=DataW.trod_array hk hd
      match ys,hl2 with
      | [y0,y1],_ =>
       have e0:=hel 0 (by decide)
       have e1:=hel 1 (by decide)
       obtain ⟨xs,x1,x2⟩:=flat_open n e ls' hls m' _ _ e0
       obtain ⟨zs,z1,z2⟩:=flat_open n e ls' hls m' _ _ e1
       obtain ⟨k1,k2⟩:=la_append ls' ls' xs zs x1 z1
       refine ⟨xs ++ zs,k1,?_⟩
       rw [k2,← x2,← z2,Nat.zero_mul,List.drop_zero,Nat.one_mul]
       rw [List.take_of_length_le (l:=cs.drop _) (by rw [List.length_drop]; omega),List.take_append_drop]
     ·cases h
    ·cases h
  ·rename_i fs hk
   split at h
   ·rename_i hc
    rw [beq_iff_eq] at hc
    obtain ⟨ys,m',rfl,_,hl,hl2,hel⟩:=DataW.trod_struct hk hd
    have:=fld_open (P:=P) (H:=H) (enc':=enc') (w:=w) (base:=base) (spare:=spare) (held:=held) (n:=n) (m:=m') (fun t ls ht cs d hd=>flat_open n t ls ht m' cs d hd) fs.toList 0 ls cs h (by omega) fun f hf=>by
     obtain ⟨i,hi,rfl⟩:=List.getElem_of_mem hf
     have hi':i < fs.size:=by simpa using hi
     have:=hel i (fs[i]) (by simp [hi'])
     have hy:i < ys.length:=by omega
     exact ⟨ys[i],by rw [Array.getElem_toList,this]; simp [hy]⟩
    simpa using this
   ·cases h
  ·cases h
theorem open_flat {n:Nat} {t:TypeId} {ls:List L} (hls:tyLs P n t=some ls) (hag:(match P.underlying t with | some (.struct _)=>true | some (.array _ _)=>true | _=>false)=true)
  {r:Reach} {b0:Nat} {v:Value} {d:DataW H} {p:List MemPlace} (hval:Value.okWide P w r b0 t v) (hd:DataW.Trod enc' P w base spare held t v d p) :
  ∃ xs:List Int,lhas ls xs ∧ v=.agg (lvals ls xs).toArray:=by
 obtain ⟨cs,rfl⟩:∃ cs,v=.agg cs:=by
  split at hag
  ·rename_i hk
   simp only [Value.okWide,hk] at hval
   obtain ⟨cs,rfl,_⟩:=hval
   exact ⟨cs,rfl⟩
  ·rename_i hk
   simp only [Value.okWide,hk] at hval
   obtain ⟨cs,rfl,_⟩:=hval
   exact ⟨cs,rfl⟩
  ·cases hag
 obtain ⟨fuel,hf⟩:=hd
 obtain ⟨xs,h1,h2⟩:=flat_open n t ls hls fuel _ _ hf
 exact ⟨xs,h1,by rw [← h2]; simp [Value.cells]⟩
theorem flat_b8 (l:List Int):flat (.int .u8) l=l.map (Value.int .u8):=by
 unfold flat
 induction l with
 | nil=>rfl
 | cons z l ih=>rw [List.flatMap_cons,ih]; rfl
theorem has_u8' {a:Int} (wa:(Lit.int .u8 a).wf=true):has .u8 a:=by
 have:=bounds_u8 wa
 have l:lo .u8=0:=by decide +kernel
 have h:hi .u8=255:=by decide +kernel
 simp only [has,l,h]
 omega
theorem open_bytes {t e:TypeId} (ht:P.underlying t=some (.slice e)) (he:P.underlying e=some (.int .u8)) (hce:P.cellsOf e=1)
  {r:Reach} {b0:Nat} {v:Value} {d:DataW H} {p:List MemPlace} (hval:Value.okWide P w r b0 t v) (hd:DataW.Trod enc' P w base spare held t v d p) :
  ∃ l:List Int,(LK.int .u8).hasL l ∧ RoRow w w (.int .u8) v l:=by
 obtain ⟨a,len,cap,rfl⟩:=okWide_slice ht hval
 obtain ⟨fuel,hf⟩:=hd
 rcases Deep.open_slice ht hf with ⟨h,_⟩ | ⟨a',len',cap',m,n,D,Pl,h,hb,hlc,hcm,hm,_,hel⟩
 ·have h':(Value.slice a len cap)=.slice none 0 0:=by simpa [Value.cells] using h
  cases h'
  exact ⟨[],⟨by simp,fun z hz=>by cases hz⟩,.inl ⟨rfl,rfl⟩⟩
 ·have h':(Value.slice a len cap)=.slice (some a') len' cap':=by simpa [Value.cells] using h
  cases h'
  have hblk:a'.block < w.heap.size:=by
   simp only [Value.okWide,ht,Cell.okWide,Cell.ok] at hval
   obtain ⟨_,_,_,_,row,cells,hs,_⟩:=hval
   unfold World.shape? at hs
   cases hh:w.heap[a'.block]? with
   | none=>rw [hh] at hs; simp at hs
   | some o=>exact (Array.getElem?_eq_some_iff.1 hh).1
  have hmle:len ≤ m:=by rw [hm]; split <;> omega
  obtain ⟨f,hfn⟩:=Deep.choose_lt (n:=len) (p:=fun i (x:Int)=>has .u8 x ∧ w.cell? (a'.add i)=some (.int .u8 x)) (fun i hi=>by
   obtain ⟨cs',h1,h2⟩:=hel i (by omega)
   rw [hce] at h1
   obtain ⟨_,hl1,hcell⟩:=World.cells?_some h1
   obtain ⟨z,rfl,_,wz⟩:=DataW.trod_int he h2
   have h0:=hcell 0 (by omega)
   rw [Nat.mul_one] at h0
   exact ⟨z,has_u8' wz,h0⟩)
  refine ⟨(List.range len).map f,⟨?_,?_⟩,.inr ⟨a',cap,?_,hblk,?_,?_⟩⟩
  ·have:maxLen=9223372036854775807:=by decide +kernel
   rw [List.length_map,List.length_range]; omega
  ·intro z hz
   obtain ⟨i,hi,rfl⟩:=List.mem_map.1 hz
   exact (hfn i (List.mem_range.1 hi)).1
  ·simp
  ·rw [List.length_map,List.length_range]; exact hlc
  ·intro j u hu
   rw [flat_b8,List.map_map,List.getElem?_map] at hu
   have hj:j < len:=by
    rcases Nat.lt_or_ge j len with h | h
    ·exact h
    ·rw [List.getElem?_eq_none (by simpa using h)] at hu; cases hu
   rw [List.getElem?_range hj] at hu
   simp only [Option.map_some,Function.comp,Option.some.injEq] at hu
   rw [← hu]
   exact (hfn j hj).2
end Go.Sx
