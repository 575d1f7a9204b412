/- Part Nm of the proof. -/
import Derived.Test.YtjkkfifojkfnjaaGreatDoorNl
import Derived.Deep.Upon
import Derived.Deep.AppendSrc
set_option linter.unusedVariables false
set_option linter.unusedSimpArgs false
namespace Go.Cx
open Go Go.Sx Go.RowKit
section
variable {P:Program} {Z S:Nat → Prop} {F:Nat → Option Obj} {w0 w:World} {ρ:Rho} {σ:St} {a:Act} {o:Oper} {s:SV}
theorem l_unOp {op:UnOp} {t:TypeId} {x:Operand} (hv:HV ρ σ a o) (ho:o.op=.unOp op t x) (hp:light P σ o=some s):LOk P ρ a w o s:=by
 unfold light at hp; rw [ho] at hp; simp only at hp
 split at hp
 ·rename_i k n hx
  cases hp
  have h1:a.eval x=.int k n:=hv.c (by simp [ho,Op.operands]) hx
  exact ⟨.int k (wr k (0 - n)),by simp [execOp,ho,h1,Op.unary,Op.intArith,wr_eq],rfl⟩
 ·rename_i k n hx
  cases hp
  have h1:a.eval x=.int k n:=hv.c (by simp [ho,Op.operands]) hx
  refine ⟨.int k (wr k ((BitVec.ofInt k.bits (if k.signed then -1 else k.max) ^^^ BitVec.ofInt k.bits n).toNat:Int)),?_,rfl⟩
  simp [execOp,ho,h1,Op.unary,Op.intBits,wr_eq]
 ·rename_i b hx
  cases hp
  have h1:a.eval x=.bool b:=hv.c (by simp [ho,Op.operands]) hx
  exact ⟨_,by simp [execOp,ho,h1,Op.unary],rfl⟩
 ·cases hp
theorem bytesOf_ok:∀ {l:List CV} {n:List Nat} {vs:List Value},bytesOf l=some n → CRs ρ l vs → vs=(n.map fun (i:Nat)=>(i:Int)).map (Value.int .u8) ∧ ∀ i ∈ n,i < 256
 | [],n,vs,h,hr=>by
  simp [bytesOf] at h; subst h
  cases vs with
  | nil=>simp
  | cons v vs=>exact hr.elim
 | c :: l,n,vs,h,hr=>by
  unfold bytesOf at h
  split at h
  ·rename_i hc; cases hc
  ·rename_i i r hc
   cases hc
   split at h
   ·rename_i m hm
    split at h
    ·rename_i hb
     cases h
     cases vs with
     | nil=>exact hr.elim
     | cons v vs =>
      obtain ⟨h1,h2⟩:=bytesOf_ok hm hr.2
      have hv:v=.int .u8 i:=hr.1
      simp only [Bool.and_eq_true,decide_eq_true_eq] at hb
      refine ⟨?_,fun j hj=>?_⟩
      ·rw [h1,hv]; simp; omega
      ·rcases List.mem_cons.1 hj with rfl | hj
       ·omega
       ·exact h2 j hj
    ·cases h
   ·cases h
  ·cases h
theorem strOf_nums {n:List Nat} (h:∀ i ∈ n,i < 256):strOf (strOfNums (n.map fun (i:Nat)=>(i:Int)))=n:=by
 unfold strOf
 rw [strOfNums_data,List.map_map,List.map_map]
 refine (List.map_congr_left fun i hi=>?_).trans (List.map_id n)
 have:=h i hi
 simp only [Function.comp,id,UInt8.toNat_ofNat',Int.toNat_natCast]
 omega
theorem l_convert {t d:TypeId} {x:Operand} (h:WR Z S F w0 ρ σ.heap σ.next w) (hv:HV ρ σ a o) (ho:o.op=.convert t d x) (hp:light P σ o=some s):LOk P ρ a w o s:=by
 unfold light at hp; rw [ho] at hp; simp only at hp
 have fin:∀ {r:Value},(convert t d (a.eval x)).run P w=.ok r w → (execOp a.eval o).run P w=.ok (.value r) w:=by
  intro r hr
  simp only [execOp,ho]; simp [hr]
 split at hp
 ·rename_i d1 k k' n hs hd hx
  cases hp
  have h1:a.eval x=.int k' n:=hv.c (by simp [ho,Op.operands]) hx
  refine ⟨_,fin (r:=.int k (wr k n)) ?_,rfl⟩
  rw [h1]; simp [convert,run_underlying hs,run_underlying hd,Conv.intToInt,wr_eq]
 ·rename_i d1 l hs hd hx
  cases hp
  obtain ⟨si,h1,h2⟩:=hv.c (by simp [ho,Op.operands]) hx
  refine ⟨_,fin (r:=.string si) ?_,si,rfl,h2⟩
  rw [h1]; simp [convert,run_underlying hs,run_underlying hd]
 ·rename_i e hs hd hx
  split at hp
  ·rename_i he
   cases hp
   have h1:a.eval x=.slice none 0 0:=hv.c (by simp [ho,Op.operands]) hx
   refine ⟨_,fin (r:=.string ByteArray.empty) ?_,_,rfl,rfl⟩
   rw [h1]; exact run_convert_bytes_nil w t e hs he 0 0 d hd
  ·cases hp
 ·rename_i e id off len cap hs hd hx
  split at hp
  ·rename_i cs own z he hob
   split at hp
   ·rename_i l hg
    split at hp
    ·rename_i n hn
     cases hp
     have hc:=hv.c (by simp [ho,Op.operands]) hx
     have key:∃ b off' c,a.eval x=.slice (some ⟨b,off',none⟩) len c ∧ (len=0 ∨ ∃ vs:List Value,CRs ρ l vs ∧ ∀ j u,vs[j]?=some u → w.cell? ⟨b,off' + j,none⟩=some u) ∨ (len=0 ∧ ∃ ad c,a.eval x=.slice (some ad) 0 c):=by
      cases cap with
      | some cap =>
       obtain ⟨p,h1,h2⟩:=hc
       obtain ⟨vs,k1,k2,k3⟩:=h.reads h1 hob hg
       refine ⟨p.b,p.o + off,cap,.inl ⟨h2,.inr ⟨vs,k2,fun j u hu=>?_⟩⟩⟩
       have:=k3 j u hu
       rw [Pl.at_add] at this
       simpa [Pl.at,Nat.add_assoc] using this
      | none =>
       obtain ⟨p,ad,c,h1,h2,h3,h4⟩:=hc
       rcases h4 with ⟨rfl,h5⟩ | ⟨rfl,rfl⟩
       ·obtain ⟨vs,k1,k2,k3⟩:=h.reads h1 hob hg
        refine ⟨p.b,p.o + off,c,.inl ⟨h2,.inr ⟨vs,k2,fun j u hu=>?_⟩⟩⟩
        have:=k3 j u hu
        rw [Pl.at_add] at this
        simpa [Pl.at,Nat.add_assoc] using this
       ·exact ⟨0,0,0,.inr ⟨rfl,ad,0,h2⟩⟩
     have hlen:=(Row.gets_ok _ _ _ _ hg).1
     obtain ⟨b,off',c,hk⟩:=key
     rcases hk with ⟨e1,e2⟩ | ⟨rfl,ad,c',e1⟩
     ·rcases e2 with rfl | ⟨vs,k2,k3⟩
      ·have:n=[]:=by
        cases l with
        | nil=>simp [bytesOf] at hn; exact hn
        | cons _ _=>simp at hlen
       subst this
       refine ⟨_,fin (r:=.string (strOfNums [])) ?_,_,rfl,rfl⟩
       rw [e1]; exact run_convert_bytes_arg w t e hs he b off' 0 c [] rfl (fun i hi=>by omega) d hd
      ·obtain ⟨g1,g2⟩:=bytesOf_ok hn k2
       have hl2:n.length=len:=by rw [← hlen,CRs.length k2,g1]; simp
       refine ⟨_,fin (r:=.string (strOfNums (n.map fun (i:Nat)=>(i:Int)))) ?_,_,rfl,strOf_nums g2⟩
       rw [e1]
       refine run_convert_bytes_arg w t e hs he b off' len c _ (by simpa using hl2) (fun i hi=>?_) d hd
       refine k3 i _ ?_
       rw [g1]
       have hi':i < n.length:=by omega
       simp [List.getD_eq_getElem?_getD,List.getElem?_map,List.getElem?_eq_getElem hi']
     ·have:n=[]:=by
       cases l with
       | nil=>simp [bytesOf] at hn; exact hn
       | cons _ _=>simp at hlen
      subst this
      refine ⟨_,fin (r:=.string ByteArray.empty) ?_,_,rfl,rfl⟩
      rw [e1,run_convert_bytes_string w t d e _ 0 c' hs he hd]
      simp [Conv.bytesToString,loadCells,loadCellsFrom]
    ·cases hp
   ·cases hp
  ·cases hp
 ·cases hp
theorem caps_ok (hv:HV ρ σ a o):∀ (xs:List Operand),(∀ x ∈ xs,x ∈ o.op.operands.toList) → ∀ (l:List (Nat × Nat)),mapO (capOf σ) xs=some l → CapsR ρ l (xs.map a.eval)
 | [],_,l,hl=>by simp [mapO] at hl; subst hl; trivial
 | x :: xs,hm,l,hl=>by
  unfold mapO at hl
  split at hl
  ·cases hl
  ·rename_i y hy
   split at hl
   ·cases hl
   ·rename_i ys hys
    cases hl
    unfold capOf at hy
    split at hy
    ·rename_i id off hc
     cases hy
     obtain ⟨p,h1,h2⟩:=hv.c (hm x (by simp)) hc
     exact ⟨⟨p,h1,h2⟩,caps_ok hv xs (fun x hx=>hm x (by simp [hx])) ys hys⟩
    ·cases hy
theorem l_makeFunc {fn:Fn} {first caps:Array Operand} (hv:HV ρ σ a o) (ho:o.op=.makeFunc fn first caps) (hp:light P σ o=some s):LOk P ρ a w o s:=by
 unfold light at hp; rw [ho] at hp
 cases fn <;> simp only at hp <;> first | (cases hp; done) | skip
 rename_i f
 split at hp
 ·rename_i hf
  have hf':first=#[]:=by simpa using hf
  split at hp
  ·rename_i l hl
   cases hp
   have h1:=caps_ok hv caps.toList (fun x hx=>by simp [ho,Op.operands]; right; simpa using hx) l hl
   refine ⟨.func (.func f) #[] (caps.map a.eval),by simp [execOp,ho,Instr.makeFunc,hf'],caps.toList.map a.eval,?_,h1⟩
   congr 1
   apply Array.ext'
   simp
  ·cases hp
 ·cases hp
theorem l_makeInterface {t:TypeId} {x:Operand} (hv:HV ρ σ a o) (ho:o.op=.makeInterface t x) (hp:light P σ o=some s):LOk P ρ a w o s:=by
 unfold light at hp; rw [ho] at hp; simp only at hp
 split at hp
 ·cases hp
 ·rename_i d c hni hd hc
  split at hp
  ·rename_i hs
   cases hp
   have h1:=hv.c (x:=x) (by simp [ho,Op.operands]) hc
   refine ⟨.iface t (a.eval x),?_,a.eval x,rfl,h1,h1.one hs⟩
   simp only [execOp,ho,Instr.makeInterface]
   simp only [Sem.run_bind,run_underlying hd,Result.andThen_ok]
   cases d <;> first | (exact absurd rfl (hni _)) | rfl
  ·cases hp
 ·cases hp
theorem l_fieldAddr {t:TypeId} {x:Operand} {f:Nat} (hv:HV ρ σ a o) (ho:o.op=.fieldAddr t x f) (hp:light P σ o=some s):LOk P ρ a w o s:=by
 unfold light at hp; rw [ho] at hp; simp only at hp
 split at hp
 ·rename_i fs id off hu hx
  obtain ⟨p,h1,h2⟩:=hv.c (x:=x) (by simp [ho,Op.operands]) hx
  split at hp
  ·rename_i fd hf
   split at hp
   ·cases hp
   ·rename_i n hne hn
    cases hp
    refine ⟨.pointer (some (p.at (off + fd.offset))),?_,p,h1,rfl⟩
    simp only [execOp,ho,h2,Instr.fieldAt]
    have hn0:¬ n=0:=fun e=>hne (by rw [e])
    simp [run_underlying hu,hf,Instr.sureAddr,fieldPlace,Sx.run_sizeOf hn,hn0,Pl.at_add]
   ·cases hp
  ·cases hp
 ·cases hp
theorem partC_ok {t:TypeId} {d:TypeDesc} {z:Nat} {cs:List CV} {vs:List Value} {off:Nat} {v:V} (hd:P.underlying t=some d) (hs:szOf P t=some z) (hr:CRs ρ cs vs)
  (hp:partC d z cs off=some v):∃ u,(part t vs.toArray off).run P w=.ok u w ∧ v.R ρ u:=by
 unfold partC at hp
 split at hp
 ·rename_i ha
  cases hp
  refine ⟨.agg ((vs.drop off).take z).toArray,?_,_,rfl,(hr.drop off).take z⟩
  simp [part,run_isAgg hd,ha,Sx.run_sizeOf hs]
 ·rename_i ha
  cases hc:cs[off]? with
  | none=>rw [hc] at hp; cases hp
  | some c =>
   rw [hc] at hp; cases hp
   obtain ⟨u,hu,hr'⟩:=hr.get _ _ hc
   exact ⟨u,by simp [part,run_isAgg hd,ha,hu],hr'⟩
theorem map_vl {q:Option V} (h:q.map SV.vl=some s):∃ v,q=some v ∧ s=.vl v:=by
 cases q with
 | none=>cases h
 | some v=>cases h; exact ⟨v,rfl,rfl⟩
theorem l_field {t:TypeId} {x:Operand} {f:Nat} (hv:HV ρ σ a o) (ho:o.op=.field t x f) (hp:light P σ o=some s):LOk P ρ a w o s:=by
 unfold light at hp; rw [ho] at hp; simp only at hp
 split at hp
 ·rename_i fs cs hu hx
  obtain ⟨vs,h1,hr⟩:=hv.v (x:=x) (by simp [ho,Op.operands]) hx
  split at hp
  ·rename_i fd hf
   split at hp
   ·rename_i d z hd hz
    obtain ⟨v,hq,rfl⟩:=map_vl hp
    obtain ⟨u,k1,k2⟩:=partC_ok (w:=w) hd hz hr hq
    refine ⟨u,?_,k2⟩
    simp only [execOp,ho,h1,Instr.field]
    simp [run_underlying hu,hf,asAgg,k1]
   ·cases hp
  ·cases hp
 ·cases hp
theorem l_index {t:TypeId} {x i:Operand} (hv:HV ρ σ a o) (ho:o.op=.index t x i) (hp:light P σ o=some s):LOk P ρ a w o s:=by
 unfold light at hp; rw [ho] at hp; simp only at hp
 split at hp
 ·rename_i n len e cs hi hu hx
  obtain ⟨k,hk⟩:=hv.nat (x:=i) (by simp [ho,Op.operands]) hi
  obtain ⟨vs,h1,hr⟩:=hv.v (x:=x) (by simp [ho,Op.operands]) hx
  split at hp
  ·rename_i d z hd hz
   split at hp
   ·rename_i hl
    have hl':n < len:=by simpa using hl
    obtain ⟨v,hq,rfl⟩:=map_vl hp
    obtain ⟨u,k1,k2⟩:=partC_ok (w:=w) hd hz hr hq
    refine ⟨u,?_,k2⟩
    simp only [execOp,ho,h1,hk,Instr.index,asIntOf]
    simp [run_underlying hu,Sx.run_sizeOf hz,hl',k1]
   ·cases hp
  ·cases hp
 ·rename_i n l hi hu hx
  obtain ⟨k,hk⟩:=hv.nat (x:=i) (by simp [ho,Op.operands]) hi
  obtain ⟨si,h1,h2⟩:=hv.v (x:=x) (by simp [ho,Op.operands]) hx
  split at hp
  ·rename_i b hb
   cases hp
   subst h2
   have hb':∃ c,si[n]?=some c ∧ c.toNat=b:=by
    unfold strOf at hb
    rw [List.getElem?_map] at hb
    cases hg:si.data.toList[n]? with
    | none=>rw [hg] at hb; cases hb
    | some c =>
     rw [hg] at hb; simp at hb
     refine ⟨c,?_,hb⟩
     have:si.data[n]?=some c:=by simpa using hg
     obtain ⟨hlt,hc⟩:=Array.getElem?_eq_some_iff.1 this
     rw [getElem?_pos si n (by simpa using hlt)]
     exact congrArg some hc
   obtain ⟨c,hc,rfl⟩:=hb'
   refine ⟨.int .u8 c.toNat,?_,rfl⟩
   simp only [execOp,ho,h1,hk,Instr.index,asIntOf]
   simp [run_underlying hu,hc]
  ·cases hp
 ·cases hp
theorem l_indexAddr {t:TypeId} {x i:Operand} (hv:HV ρ σ a o) (ho:o.op=.indexAddr t x i) (hp:light P σ o=some s):LOk P ρ a w o s:=by
 unfold light at hp; rw [ho] at hp; simp only at hp
 split at hp
 ·rename_i n len e id off hi hu hx
  obtain ⟨k,hk⟩:=hv.nat (x:=i) (by simp [ho,Op.operands]) hi
  obtain ⟨p,h1,h2⟩:=hv.c (x:=x) (by simp [ho,Op.operands]) hx
  split at hp
  ·rename_i z hz
   split at hp
   ·rename_i hl
    have hl':n < len:=by simpa using hl
    cases hp
    refine ⟨.pointer (some (p.at (off + n * z))),?_,p,h1,rfl⟩
    simp only [execOp,ho,h2,hk,Instr.indexAt,asIntOf]
    simp [run_underlying hu,Instr.sureAddr,Sx.run_sizeOf hz,Pl.at_add,hl']
   ·cases hp
  ·cases hp
 ·rename_i n e id off len cap hi hu hx
  obtain ⟨k,hk⟩:=hv.nat (x:=i) (by simp [ho,Op.operands]) hi
  have h0:=hv.c (x:=x) (by simp [ho,Op.operands]) hx
  split at hp
  ·rename_i z hz
   split at hp
   ·rename_i hl
    have hl':n < len:=by simpa using hl
    cases hp
    have key:∃ p c,ρ id=some p ∧ a.eval x=.slice (some (p.at off)) len c:=by
     cases cap with
     | some c=>obtain ⟨p,h1,h2⟩:=h0; exact ⟨p,c,h1,h2⟩
     | none =>
      obtain ⟨p,ad,c,h1,h2,h3,h4⟩:=h0
      rcases h4 with ⟨rfl,_⟩ | ⟨h5,_⟩
      ·exact ⟨p,c,h1,h2⟩
      ·omega
    obtain ⟨p,c,h1,h2⟩:=key
    refine ⟨.pointer (some (p.at (off + n * z))),?_,p,h1,rfl⟩
    simp only [execOp,ho,h2,hk,Instr.indexAt,asIntOf]
    simp [run_underlying hu,Sx.run_sizeOf hz,Pl.at_add,hl']
   ·cases hp
  ·cases hp
 ·cases hp
theorem l_extract {x:Operand} {i:Nat} (hv:HV ρ σ a o) (ho:o.op=.extract x i) (hp:light P σ o=some s):LOk P ρ a w o s:=by
 unfold light at hp; rw [ho] at hp; simp only at hp
 split at hp
 ·rename_i l hx
  obtain ⟨vs,h1,hr⟩:=hv x (by simp [ho,Op.operands]) _ hx
  obtain ⟨v,hq,rfl⟩:=map_vl hp
  obtain ⟨u,k1,k2⟩:=hr.get _ _ hq
  exact ⟨u,by simp [execOp,ho,h1,Instr.extract,k1],k2⟩
 ·cases hp
theorem l_s2ap {t:TypeId} {x:Operand} (hv:HV ρ σ a o) (ho:o.op=.sliceToArrayPointer t x) (hp:light P σ o=some s):LOk P ρ a w o s:=by
 unfold light at hp; rw [ho] at hp; simp only at hp
 split at hp
 ·rename_i n e id off len cap hu hx
  split at hp
  ·rename_i hl
   cases hp
   have h0:=hv.c (x:=x) (by simp [ho,Op.operands]) hx
   have key:∃ p c,ρ id=some p ∧ a.eval x=.slice (some (p.at off)) len c:=by
    cases cap with
    | some c=>obtain ⟨p,h1,h2⟩:=h0; exact ⟨p,c,h1,h2⟩
    | none =>
     obtain ⟨p,ad,c,h1,h2,h3,h4⟩:=h0
     rcases h4 with ⟨rfl,_⟩ | ⟨h5,_⟩
     ·exact ⟨p,c,h1,h2⟩
     ·simp only [Bool.and_eq_true,decide_eq_true_eq] at hl; omega
   obtain ⟨p,c,h1,h2⟩:=key
   refine ⟨_,?_,p,h1,rfl⟩
   simp only [Bool.and_eq_true,decide_eq_true_eq] at hl
   simp only [execOp,ho,h2,Instr.arrayAt]
   simp [run_underlying hu,show ¬ len < n by omega]
  ·cases hp
 ·cases hp
end
section
variable {P:Program} {Z S:Nat → Prop} {F:Nat → Option Obj} {w0 w:World} {ρ:Rho} {σ:St} {a:Act} {o:Oper} {s:SV}
theorem bnds_ok {len cap cap':Nat} {lo hi mx:Option Operand} {l h m:Nat} (hv:∀ x ∈ lo.toList ++ hi.toList ++ mx.toList,∀ s,σ.val x=some s → s.R ρ (a.eval x)) (hb:bnds σ len cap lo hi mx=some (l,h,m)) (hc:cap ≤ cap') (b:Bool) :
  (Instr.sliceBounds b len cap' (lo.map a.eval) (hi.map a.eval) (mx.map a.eval)).run P w=.ok (l,h,if mx.isNone then cap' else m) w ∧ l ≤ h ∧ h ≤ m ∧ m ≤ cap ∧ (mx.isNone=true → m=cap):=by
 have nat:∀ x ∈ lo.toList ++ hi.toList ++ mx.toList,∀ n,natOf σ x=some n → ∃ k,a.eval x=.int k (n:Int):=by
  intro x hx n hn
  unfold natOf at hn
  split at hn
  ·rename_i k i hcc
   split at hn
   ·rename_i hz
    cases hn
    exact ⟨k,by rw [show a.eval x=.int k i from hv x hx _ (c_val hcc),Int.toNat_of_nonneg hz]⟩
   ·cases hn
  ·cases hn
 unfold bnds at hb
 split at hb
 ·rename_i l' h' m' hl hh hm
  split at hb
  ·rename_i hle
   simp only [Option.some.injEq,Prod.mk.injEq] at hb
   obtain ⟨rfl,rfl,rfl⟩:=hb
   simp only [Bool.and_eq_true,Nat.ble_eq,Bool.or_eq_true] at hle
   obtain ⟨⟨⟨h1,h2⟩,h3⟩,h4⟩:=hle
   refine ⟨?_,h1,h2,h3,fun e=>?_⟩
   ·cases mx with
    | none =>
     have hm':m'=cap:=by simpa [bnd] using hm.symm
     cases hi with
     | none =>
      have hh':h'=len:=by simpa [bnd] using hh.symm
      cases lo with
      | none =>
           have:l'=0:=by simpa [bnd] using hl.symm
           subst this; subst hh'; simp [Instr.sliceBounds]
      | some x =>
            obtain ⟨k,hk⟩:=nat x (by simp) l' hl
            subst hh'; simp [Instr.sliceBounds,hk,Sx.run_sliceBound rfl h1]
     | some y =>
      obtain ⟨k,hk⟩:=nat y (by simp) h' hh
      have hcap:h' ≤ cap':=by omega
      cases lo with
      | none =>
           have:l'=0:=by simpa [bnd] using hl.symm
           subst this; simp [Instr.sliceBounds,hk,Sx.run_sliceBound rfl hcap]
      | some x =>
            obtain ⟨k',hk'⟩:=nat x (by simp) l' hl
            simp [Instr.sliceBounds,hk,hk',Sx.run_sliceBound rfl hcap,Sx.run_sliceBound rfl h1]
    | some z =>
     obtain ⟨k,hk⟩:=nat z (by simp) m' hm
     have hcap:m' ≤ cap':=by omega
     cases hi with
     | none=>simp at h4
     | some y =>
      obtain ⟨k1,hk1⟩:=nat y (by simp) h' hh
      cases lo with
      | none =>
           have:l'=0:=by simpa [bnd] using hl.symm
           subst this; simp [Instr.sliceBounds,hk,hk1,Sx.run_sliceBound rfl hcap,Sx.run_sliceBound rfl h2]
      | some x =>
            obtain ⟨k',hk'⟩:=nat x (by simp) l' hl
            simp [Instr.sliceBounds,hk,hk1,hk',Sx.run_sliceBound rfl hcap,Sx.run_sliceBound rfl h2,Sx.run_sliceBound rfl h1]
   ·cases mx with
    | none=>simpa [bnd] using hm.symm
    | some z=>cases e
  ·cases hb
 ·cases hb
theorem at_if (p:Pl) (off m l z:Nat):(if m=l then p.at off else (p.at off).add (l * z))=p.at (if Nat.beq m l then off else off + l * z):=by
 by_cases h:m=l
 ·subst h; rw [if_pos rfl,show Nat.beq m m=true from Nat.beq_refl m]; rfl
 ·have:Nat.beq m l=false:=by cases hb:Nat.beq m l with | false=>rfl | true=>exact absurd (Nat.eq_of_beq_eq_true hb) h
  rw [if_neg h,Pl.at_add,this]; rfl
theorem l_slice {t:TypeId} {x:Operand} {lo hi mx:Option Operand} (hw:WR Z S F w0 ρ σ.heap σ.next w) (hv:HV ρ σ a o) (ho:o.op=.slice t x lo hi mx) (hp:light P σ o=some s):LOk P ρ a w o s:=by
 have hb:∀ y ∈ lo.toList ++ hi.toList ++ mx.toList,∀ s,σ.val y=some s → s.R ρ (a.eval y):=fun y hy s hs=>hv y (by simp [ho,Op.operands] at hy ⊢; exact .inr hy) s hs
 unfold light at hp; rw [ho] at hp; simp only at hp
 split at hp
 ·rename_i e c hu hx
  have hc:=hv.c (x:=x) (by simp [ho,Op.operands]) hx
  split at hp
  ·rename_i z hz
   cases hs:sliceC σ z lo hi mx c with
   | none=>rw [hs] at hp; cases hp
   | some c' =>
    rw [hs] at hp; cases hp
    have fin:∀ {r:Value},(Instr.slice t (a.eval x) (lo.map a.eval) (hi.map a.eval) (mx.map a.eval)).run P w=.ok r w → (execOp a.eval o).run P w=.ok (.value r) w:=by
     intro r hr
     simp only [execOp,ho,Instr.sliceAt]
     simp [run_underlying hu,hr]
    unfold sliceC at hs
    split at hs
    ·rename_i id off len cap
     split at hs
     ·rename_i l h m hbn
      cases hs
      obtain ⟨g1,g2,g3,g4,g5⟩:=bnds_ok (P:=P) (w:=w) hb hbn (Nat.le_refl cap) true
      obtain ⟨p,h1,h2⟩:=hc
      have hm:(if mx.isNone then cap else m)=m:=by
       cases hmx:mx.isNone with
       | true=>simp [g5 hmx]
       | false=>simp
      rw [hm] at g1
      refine ⟨_,fin (r:=.slice (some (if m=l then p.at off else (p.at off).add (l * z))) (h - l) (m - l)) ?_,p,h1,by rw [at_if]⟩
      rw [h2]
      simp only [Instr.slice]
      simp [run_underlying hu,g1,Sx.run_sizeOf hz]
      by_cases hml:m=l <;> simp [hml]
     ·cases hs
    ·rename_i id off len
     split at hs
     ·rename_i l h m cs own z' hbn hob
      split at hs
      ·rename_i hzz
       have hzz:z'=z:=by simpa using hzz
       subst hzz
       obtain ⟨p,ad,cap,h1,h2,h3,h4⟩:=hc
       obtain ⟨g1,g2,g3,g4,g5⟩:=bnds_ok (P:=P) (w:=w) hb hbn h3 true
       have hz':p.z=z':=by
        obtain ⟨_,_,_,_,_,k,_⟩:=hw.ob id p _ h1 hob
        exact k
       have run:∀ m',(if mx.isNone then cap else m)=m' → (execOp a.eval o).run P w=.ok (.value (.slice (some (if m'=l then ad else ad.add (l * z'))) (h - l) (m' - l))) w:=by
        intro m' hm'
        rw [hm'] at g1
        refine fin ?_
        rw [h2]
        simp only [Instr.slice]
        simp [run_underlying hu,g1,Sx.run_sizeOf hz]
        by_cases hml:m'=l <;> simp [hml]
       cases hmx:mx.isNone with
       | true =>
        rw [hmx] at hs
        simp only [if_true] at hs
        cases hs
        have r:=run cap (by simp [hmx])
        refine ⟨_,r,p,_,cap - l,h1,rfl,by have:=g5 hmx; omega,?_⟩
        have:=g5 hmx
        by_cases hcl:cap=l
        ·right; omega
        ·rcases h4 with ⟨rfl,h5⟩ | ⟨h5,h6⟩
         ·left
          simp only [hcl,if_false,Pl.at_add,true_and]
          rw [hz'] at h5 ⊢
          have:(cap - l) * z' + l * z'=cap * z':=by rw [← Nat.add_mul]; congr 1; omega
          omega
         ·omega
       | false =>
        rw [hmx] at hs
        simp only [Bool.false_eq_true,if_false] at hs
        have r:=run m (by simp [hmx])
        split at hs
        ·rename_i hml
         have hml:m=l:=by simpa using hml
         cases hs
         refine ⟨_,r,p,(if m=l then ad else ad.add (l * z')),m - l,h1,?_,by omega,.inr ⟨rfl,by omega⟩⟩
         rw [show h - l=0 by omega]
        ·rename_i hml
         have hml:¬ m=l:=by simpa using hml
         cases hs
         refine ⟨_,r,p,h1,?_⟩
         rcases h4 with ⟨rfl,h5⟩ | ⟨h5,h6⟩
         ·simp [hml,Pl.at_add]
         ·omega
      ·cases hs
     ·cases hs
    ·split at hs
     ·rename_i r hbn
      obtain ⟨l,h,m⟩:=r
      cases hs
      obtain ⟨g1,g2,g3,g4,g5⟩:=bnds_ok (P:=P) (w:=w) hb hbn (Nat.le_refl 0) true
      have h2:a.eval x=.slice none 0 0:=hc
      obtain rfl:m=0:=by omega
      obtain rfl:h=0:=by omega
      obtain rfl:l=0:=by omega
      refine ⟨_,fin (r:=.slice none 0 0) ?_,rfl⟩
      rw [h2]
      simp only [Instr.slice]
      simp [run_underlying hu,g1,Sx.run_sizeOf hz]
     ·cases hs
    ·cases hs
  ·cases hp
 ·rename_i n e id off hu hx
  obtain ⟨p,h1,h2⟩:=hv.c (x:=x) (by simp [ho,Op.operands]) hx
  split at hp
  ·rename_i z hz
   cases hs:sliceC σ z lo hi mx (.sl id off n (some n)) with
   | none=>rw [hs] at hp; cases hp
   | some c' =>
    rw [hs] at hp; cases hp
    simp only [sliceC] at hs
    split at hs
    ·rename_i l h m hbn
     cases hs
     obtain ⟨g1,g2,g3,g4,g5⟩:=bnds_ok (P:=P) (w:=w) hb hbn (Nat.le_refl n) false
     have hm:(if mx.isNone then n else m)=m:=by
      cases hmx:mx.isNone with
      | true=>simp [g5 hmx]
      | false=>simp
     rw [hm] at g1
     refine ⟨.slice (some (if m=l then p.at off else (p.at off).add (l * z))) (h - l) (m - l),?_,p,h1,by rw [at_if]⟩
     simp only [execOp,ho,h2,Instr.sliceAt]
     simp [run_underlying hu,Instr.sureAddr,g1,Sx.run_sizeOf hz]
    ·cases hs
  ·cases hp
 ·rename_i l hu hx
  obtain ⟨si,h1,h2⟩:=hv.c (x:=x) (by simp [ho,Op.operands]) hx
  split at hp
  ·rename_i bo b1 b2 b3 hbn
   cases hp
   have hb':∀ y ∈ lo.toList ++ hi.toList ++ (none:Option Operand).toList,∀ s,σ.val y=some s → s.R ρ (a.eval y):=fun y hy s hs=>hb y (by simp at hy ⊢; rcases hy with h | h <;> simp [h]) s hs
   obtain ⟨g1,g2,g3,g4,g5⟩:=bnds_ok (P:=P) (w:=w) hb' hbn (Nat.le_refl _) false
   subst h2
   have hl:(strOf si).length=si.size:=by simp [strOf]
   rw [hl] at g1
   simp only [Option.isNone_none,if_true,Option.map_none] at g1
   refine ⟨.string (si.extract b1 b2),?_,_,rfl,?_⟩
   ·simp only [execOp,ho,h1,Instr.sliceAt]
    simp [run_underlying hu,Instr.slice,g1]
   ·unfold strOf
    rw [ByteArray.data_extract]
    simp [List.map_take,List.map_drop,List.take_drop]
    rw [List.drop_take,show b1 + (b2 - b1) - b1=b2 - b1 by omega,List.drop_take]
  ·cases hp
 ·cases hp
theorem run_getMap {r:Nat} {ar:Array MapEntry} {clock:Nat} (h:w.heap[r]?=some (.map ar clock)):(getObj r).run P w=.ok (.map ar clock) w:=by
 simp only [getObj,Sem.run,h]
theorem l_len {c:Call} (hw:WR Z S F w0 ρ σ.heap σ.next w) (hv:HV ρ σ a o) (ho:o.op=.call c) (hp:light P σ o=some s):LOk P ρ a w o s:=by
  obtain ⟨callee,args,argTypes⟩:=c
  unfold light at hp; rw [ho] at hp; simp only at hp
  have fin:∀ {b:Builtin} {r:Value},callee=.builtin b → ((builtin b argTypes o.type (args.map fun | .const _=>true | _=>false) (args.map a.eval)).run P w=.ok (.value r) w) → (execOp a.eval o).run P w=.ok (.value r) w:=by
    intro b r hb hr
    subst hb
    simp only [execOp,ho,resolve,Sem.run_bind,Sem.run_pure,Result.andThen_ok,invoke]
    exact hr
  have mem:∀ x ∈ args.toList,x ∈ o.op.operands.toList:=fun x hx=>by
    rw [ho]; simp only [Op.operands,Call.operands]
    simp at hx ⊢; right; exact hx
  split at hp
  · rename_i t x hat has
    have e1:argTypes=#[t]:=by apply Array.ext'; simpa using hat
    have e2:args=#[x]:=by apply Array.ext'; simpa using has
    subst e1; subst e2
    have hx:=mem x (by simp)
    split at hp
    · rename_i l hu hxv
      cases hp
      obtain ⟨si,h1,h2⟩:=hv.v hx hxv
      refine ⟨_,fin rfl (r:=goInt si.size) ?_,?_⟩
      · simp [builtin,Builtin.len_,h1,run_underlying hu]
      · subst h2; simp [SV.R,V.R,CV.R,goInt,strOf]
    · rename_i n e hu
      cases hp
      refine ⟨_,fin rfl (r:=goInt n) ?_,rfl⟩
      simp [builtin,Builtin.len_,run_underlying hu]
    · rename_i ar hu
      split at hp
      · rename_i n e hu2
        cases hp
        refine ⟨_,fin rfl (r:=goInt n) ?_,rfl⟩
        simp [builtin,Builtin.len_,run_underlying hu,run_underlying hu2]
      · cases hp
    · rename_i e hu hxv
      cases hp
      have h1:a.eval x=.slice none 0 0:=hv.v hx hxv
      refine ⟨_,fin rfl (r:=goInt 0) ?_,rfl⟩
      simp [builtin,Builtin.len_,h1,run_underlying hu]
    · rename_i e id off n cap hu hxv
      cases hp
      obtain ⟨ad,cc,h1⟩:=sl_form (hv.v hx hxv)
      refine ⟨_,fin rfl (r:=goInt n) ?_,rfl⟩
      simp [builtin,Builtin.len_,h1,run_underlying hu]
    · rename_i kt et hu hxv
      cases hp
      have h1:a.eval x=.map none:=hv.v hx hxv
      refine ⟨_,fin rfl (r:=goInt 0) ?_,rfl⟩
      simp [builtin,Builtin.len_,h1,run_underlying hu]
    · rename_i kt et id hu hxv
      obtain ⟨p,h0,h1⟩:=hv.v hx hxv
      split at hp
      · rename_i es clock hob
        cases hp
        obtain ⟨g1,ar,g2,g3⟩:=hw.ob id p _ h0 hob
        have hl:∀ {es:List ME} {fs:List MapEntry},MEs ρ es fs → es.length=fs.length:=by
          intro es
          induction es with
          | nil=>intro fs h; cases fs with
            | nil=>rfl
            | cons _ _=>exact h.elim
          | cons e es ih=>intro fs h; cases fs with
            | nil=>exact h.elim
            | cons f fs=>simp [ih h.2]
        have:=hl g3
        refine ⟨_,fin rfl (r:=goInt ar.size) ?_,?_⟩
        · simp only [builtin,Builtin.len_]
          simp [h1,run_underlying hu,run_getMap g2]
        · simp [SV.R,V.R,CV.R,goInt,this]
      · cases hp
    · cases hp
  all_goals first
    | (cases hp; done)
    | skip
  all_goals
    rename_i x xs has
    split at hp
    · rename_i k i bs hx hxs
      cases hp
      have e2:args=(x :: xs).toArray:=by apply Array.ext'; simpa using has
      subst e2
      have h1:a.eval x=.int k i:=hv.c (mem x (by simp)) hx
      have hm:∀ y ∈ xs,y ∈ o.op.operands.toList:=fun y hy=>mem y (by simp [hy])
      clear mem has
      have key:∀ (xs:List Operand) (bs:List Int) (i:Int),(∀ y ∈ xs,y ∈ o.op.operands.toList) → mapO σ.int xs=some bs → ∃ vs:List Value,xs.map a.eval=vs ∧ ∀ w,
          (vs.foldlM Builtin.min2 (.int k i)).run P w=.ok (.int k (bs.foldl (fun a b=>if b < a then b else a) i)) w ∧ (vs.foldlM Builtin.max2 (.int k i)).run P w=.ok (.int k (bs.foldl (fun a b=>if a < b then b else a) i)) w:=by
        intro xs
        induction xs with
        | nil=>intro bs i _ hb; simp [mapO] at hb; subst hb; exact ⟨[],rfl,fun w=>⟨rfl,rfl⟩⟩
        | cons y ys ih =>
          intro bs i hmm hb
          unfold mapO at hb
          split at hb
          · cases hb
          · rename_i z hz
            split at hb
            · cases hb
            · rename_i zs hzs
              cases hb
              obtain ⟨k',hk'⟩:=hv.int (hmm y (by simp)) hz
              obtain ⟨vs1,g1,g2⟩:=ih zs (if z < i then z else i) (fun y hy=>hmm y (by simp [hy])) hzs
              obtain ⟨vs2,g3,g4⟩:=ih zs (if i < z then z else i) (fun y hy=>hmm y (by simp [hy])) hzs
              refine ⟨(y :: ys).map a.eval,rfl,fun w=>⟨?_,?_⟩⟩
              · simp only [List.map_cons,List.foldlM_cons,List.foldl_cons,hk',Builtin.min2,Sem.run_bind,Sem.run_pure,Result.andThen_ok]
                rw [g1]; exact (g2 w).1
              · simp only [List.map_cons,List.foldlM_cons,List.foldl_cons,hk',Builtin.max2,Sem.run_bind,Sem.run_pure,Result.andThen_ok]
                rw [g3]; exact (g4 w).2
      obtain ⟨vs,k1,k2⟩:=key xs bs i hm hxs
      first
      | (refine ⟨_,fin rfl (r:=.int k (bs.foldl (fun a b=>if b < a then b else a) i)) ?_,rfl⟩
         simp only [builtin,Builtin.min_]
         simp [h1,k1,(k2 w).1]; done)
      | (refine ⟨_,fin rfl (r:=.int k (bs.foldl (fun a b=>if a < b then b else a) i)) ?_,rfl⟩
         simp only [builtin,Builtin.max_]
         simp [h1,k1,(k2 w).2]; done)
    · cases hp
end
section
variable {P:Program} {Z S:Nat → Prop} {F:Nat → Option Obj} {w0 w:World} {ρ:Rho} {σ:St} {a:Act} {o:Oper} {s:SV}
def KeyAt (P:Program) (ρ:Rho) (d:Nat) (t:TypeId) (f:List CV → List CV → Option (Bool × List CV × List CV)):Prop :=
 ∀ xs ys b xs' ys',f xs ys=some (b,xs',ys') → ∀ vx,CRs ρ xs vx →
  ∃ s ds,P.underlying t=some ds ∧ szOf P t=some s ∧ (isAggB ds=false → s=1) ∧ s ≤ vx.length ∧ CRs ρ xs' (vx.drop s) ∧
   ∀ em n,d ≤ n → ∀ w,(Instr.checkKey em n t (tval ds (vx.take s))).run P w=.ok () w
def ckItems (em:Bool) (n:Nat) (e:TypeId) (z:Nat) (xs:Array Value):List Nat → Sem Unit
 | []=>pure ()
 | i :: is=>do Instr.checkKey em n e (← part e xs (i * z)); ckItems em n e z xs is
def ckFields (em:Bool) (n:Nat) (xs:Array Value):List Field → Sem Unit
 | []=>pure ()
 | f :: fs=>do
  if f.name ≠ "_" then Instr.checkKey em n f.type (← part f.type xs f.offset)
  ckFields em n xs fs
theorem run_ck_array (em:Bool) (n:Nat) {t e:TypeId} {len z:Nat} (xs:Array Value) (hu:P.underlying t=some (.array len e)) (hz:szOf P e=some z) (w:World) :
  (Instr.checkKey em (n + 1) t (.agg xs)).run P w=(ckItems em n e z xs (List.range' 0 len)).run P w:=by
 simp only [Instr.checkKey,Sem.run_bind,run_underlying hu,Result.andThen_ok]
 rw [Std.Legacy.Range.forIn_eq_forIn_range']
 simp only [Std.Legacy.Range.size,Nat.sub_zero,Nat.add_sub_cancel,Nat.div_one]
 generalize List.range' 0 len 1=l
 induction l generalizing w with
 | nil=>simp [ckItems]
 | cons i l ih =>
  simp only [List.forIn_cons,ckItems,Sem.run_bind,Sx.run_sizeOf hz,Result.andThen_ok]
  generalize (part e xs (i * z)).run P w=r1
  cases r1 with
  | ok v w1 =>
   simp only [Result.andThen_ok]
   generalize (Instr.checkKey em n e v).run P w1=r2
   cases r2 with
   | ok u w2 =>
    simp only [Result.andThen_ok,Sem.run_pure]
    exact ih w2
   | halt x w2=>simp [Result.andThen]
  | halt x w1=>simp [Result.andThen]
theorem run_ck_struct (em:Bool) (n:Nat) {t:TypeId} {fs:Array Field} (xs:Array Value) (hu:P.underlying t=some (.struct fs)) (w:World) :
  (Instr.checkKey em (n + 1) t (.agg xs)).run P w=(ckFields em n xs fs.toList).run P w:=by
 simp only [Instr.checkKey,Sem.run_bind,run_underlying hu,Result.andThen_ok]
 rw [← Array.forIn_toList]
 generalize fs.toList=l
 induction l generalizing w with
 | nil=>simp [ckFields]
 | cons f l ih =>
  simp only [List.forIn_cons,ckFields,Sem.run_bind]
  by_cases hn:f.name ≠ "_"
  ·simp only [hn,ne_eq,not_false_eq_true,if_true,Sem.run_bind]
   generalize (part f.type xs f.offset).run P w=r1
   cases r1 with
   | ok v w1 =>
    simp only [Result.andThen_ok]
    generalize (Instr.checkKey em n f.type v).run P w1=r2
    cases r2 with
    | ok u w2 =>
     simp only [Result.andThen_ok,Sem.run_pure]
     exact ih w2
    | halt x w2=>simp [Result.andThen]
   | halt x w1=>simp [Result.andThen]
  ·simp only [hn,if_false,Sem.run_pure,Result.andThen_ok]
   exact ih w
theorem ckNs_ok {d:Nat} {e:TypeId} {f:List CV → List CV → Option (Bool × List CV × List CV)} (hf:KeyAt P ρ d e f) {s:Nat} {de:TypeDesc} (hs:szOf P e=some s) (hde:P.underlying e=some de) :
  ∀ (n:Nat) (xs ys:List CV) b xs' ys',eqNs f n xs ys=some (b,xs',ys') → ∀ (VX:List Value) (k:Nat) (N:Nat),(k + n) * s ≤ N → CRs ρ xs (VX.drop (k * s)) →
   (n ≠ 0 → (k + n) * s ≤ VX.length) ∧ CRs ρ xs' (VX.drop ((k + n) * s)) ∧
   ∀ em D,d ≤ D → ∀ w,(ckItems em D e s (VX.take N).toArray (List.range' k n)).run P w=.ok () w:=by
 intro n
 induction n with
 | zero =>
  intro xs ys b xs' ys' h VX k N _ hx
  simp [eqNs] at h
  obtain ⟨rfl,rfl,rfl⟩:=h
  exact ⟨fun h=>absurd rfl h,by simpa using hx,fun em D _ w=>by simp [ckItems]⟩
 | succ n ih =>
  intro xs ys b xs' ys' h VX k N hN hx
  unfold eqNs at h
  split at h
  ·cases h
  ·rename_i r hr
   obtain ⟨b1,xs1,ys1⟩:=r
   simp only at h
   split at h
   ·cases h
   ·rename_i q hq
    obtain ⟨b2,xs2,ys2⟩:=q
    simp at h
    obtain ⟨rfl,rfl,rfl⟩:=h
    obtain ⟨s',ds,h1,h2,h3,h4,h6,h8⟩:=hf _ _ _ _ _ hr _ hx
    rw [hs] at h2; cases h2
    rw [hde] at h1; cases h1
    have e1:k * s + s=(k + 1) * s:=by rw [Nat.add_mul,Nat.one_mul]
    have e2:(k + 1 + n) * s=(k + (n + 1)) * s:=by congr 1; omega
    rw [List.drop_drop,e1] at h6
    obtain ⟨g1,g2,g4⟩:=ih _ _ _ _ _ hq VX (k + 1) N (by rw [e2]; exact hN) h6
    rw [e2] at g1 g2
    have hb:(k + 1) * s ≤ (k + (n + 1)) * s:=Nat.mul_le_mul_right _ (by omega)
    rw [List.length_drop] at h4
    refine ⟨fun _=>?_,g2,fun em D hD w=>?_⟩
    ·by_cases h0:n=0
     ·subst h0
      by_cases hs0:s=0
      ·subst hs0; simp
      ·rw [← e2]; simp only [Nat.add_zero]; omega
     ·exact g1 h0
    ·rw [List.range'_succ]
     simp only [ckItems,Sem.run_bind]
     have p1:(part e (VX.take N).toArray (k * s)).run P w=.ok (tval de ((VX.drop (k * s)).take s)) w:=by
      rw [run_part hde hs,drop_take_part (by omega)]
      intro ha
      have:=h3 ha
      subst this
      refine ⟨?_,rfl⟩
      rw [List.length_take]; omega
     simp only [p1,Result.andThen_ok,h8 em D hD w,g4 em D hD w]
theorem ckFs_ok {d:Nat} {f:TypeId → List CV → List CV → Option (Bool × List CV × List CV)} (hf:∀ t,KeyAt P ρ d t (f t)) :
  ∀ (fs:List Field) (n:Nat) (xs ys:List CV) b n' xs' ys',eqFs f (szOf P) fs n xs ys=some (b,n',xs',ys') → n ≤ n' ∧ ∀ (VX:List Value) (N:Nat),n' ≤ N → CRs ρ xs (VX.drop n) →
   (n'=n ∨ n' ≤ VX.length) ∧ CRs ρ xs' (VX.drop n') ∧
   ∀ em D,d ≤ D → ∀ w,(ckFields em D (VX.take N).toArray fs).run P w=.ok () w:=by
 intro fs
 induction fs with
 | nil =>
  intro n xs ys b n' xs' ys' h
  simp [eqFs] at h
  obtain ⟨rfl,rfl,rfl,rfl⟩:=h
  exact ⟨Nat.le_refl _,fun VX N _ hx=>⟨.inl rfl,hx,fun em D _ w=>by simp [ckFields]⟩⟩
 | cons fd fs ih =>
  intro n xs ys b n' xs' ys' h
  unfold eqFs at h
  split at h
  ·cases h
  ·rename_i hname
   simp at hname
   split at h
   ·rename_i r s hr hs
    obtain ⟨b1,xs1,ys1⟩:=r
    simp only at h
    split at h
    ·cases h
    ·rename_i q hq
     obtain ⟨b2,n2,xs2,ys2⟩:=q
     simp at h
     obtain ⟨rfl,rfl,rfl,rfl⟩:=h
     obtain ⟨hle,hrest⟩:=ih _ _ _ _ _ _ _ hq
     refine ⟨by omega,fun VX N hN hx=>?_⟩
     obtain ⟨s',ds,h1,h2,h3,h4,h6,h8⟩:=hf _ _ _ _ _ _ hr _ hx
     rw [hs] at h2; cases h2
     rw [List.drop_drop] at h6
     obtain ⟨g1,g2,g4⟩:=hrest VX N hN h6
     rw [List.length_drop] at h4
     refine ⟨?_,g2,fun em D hD w=>?_⟩
     ·omega
     ·simp only [ckFields,hname.1,ne_eq,not_false_eq_true,if_true,Sem.run_bind,hname.2]
      have p1:(part fd.type (VX.take N).toArray n).run P w=.ok (tval ds ((VX.drop n).take s)) w:=by
       rw [run_part h1 hs,drop_take_part (by omega)]
       intro ha
       have:=h3 ha
       subst this
       refine ⟨?_,rfl⟩
       rw [List.length_take]; omega
      simp only [p1,Result.andThen_ok,h8 em D hD w,g4 em D hD w]
   ·cases h
theorem ckW_ok:∀ (d:Nat) (t:TypeId),KeyAt P ρ d t (eqW P d t):=by
 intro d
 induction d with
 | zero=>intro t xs ys b xs' ys' h; simp [eqW] at h
 | succ d ih =>
  intro t xs ys b xs' ys' h vx hx
  unfold eqW at h
  have plain:∀ {ds:TypeDesc} {v:Value} {vx:List Value},P.underlying t=some ds → (∀ k n,v=Value.int k n → ∃ k',ds=.int k') → (∀ k,v=Value.bool k → ds=.bool) → (∀ k,v=Value.string k → ds=.string) → isAggB ds=false → (∀ ms,ds ≠ .interface ms) →
    ∀ em n,d + 1 ≤ n → ∀ w,(Instr.checkKey em n t (tval ds ((v :: vx).take 1))).run P w=.ok () w:=by
   intro ds v vx hu _ _ _ ha hi em n hn w
   obtain ⟨n',rfl⟩:∃ n',n=n' + 1:=⟨n - 1,by omega⟩
   simp only [tval,ha,Bool.false_eq_true,if_false,Instr.checkKey,Sem.run_bind,run_underlying hu,Result.andThen_ok]
   cases ds <;> first | (cases ha; done) | (exact absurd rfl (hi _)) | rfl
  split at h
  ·rename_i k0 hu
   split at h
   ·rename_i k i xs1 k' j ys1
    split at h
    ·rename_i hk
     simp at hk h
     obtain ⟨rfl,hs⟩:=hk
     obtain ⟨rfl,rfl,rfl⟩:=h
     match vx,hx with
     | u :: vx,hx =>
      obtain ⟨rfl,hx⟩:=hx
      exact ⟨1,_,hu,hs,fun _=>rfl,by simp,hx,plain hu (fun _ _ _=>⟨_,rfl⟩) (fun _ e=>by cases e) (fun _ e=>by cases e) rfl (by simp)⟩
    ·cases h
   ·cases h
  ·rename_i hu
   split at h
   ·rename_i i xs1 j ys1
    split at h
    ·rename_i hs
     simp at hs h
     obtain ⟨rfl,rfl,rfl⟩:=h
     match vx,hx with
     | u :: vx,hx =>
      obtain ⟨rfl,hx⟩:=hx
      exact ⟨1,_,hu,hs,fun _=>rfl,by simp,hx,plain hu (fun _ _ e=>by cases e) (fun _ _=>rfl) (fun _ e=>by cases e) rfl (by simp)⟩
    ·cases h
   ·cases h
  ·rename_i hu
   split at h
   ·rename_i i xs1 j ys1
    split at h
    ·rename_i hs
     simp at hs h
     obtain ⟨rfl,rfl,rfl⟩:=h
     match vx,hx with
     | u :: vx,hx =>
      obtain ⟨⟨s1,e1,e2⟩,hx'⟩:=hx
      subst e1
      exact ⟨1,_,hu,hs,fun _=>rfl,by simp,hx',plain hu (fun _ _ e=>by cases e) (fun _ e=>by cases e) (fun _ _=>rfl) rfl (by simp)⟩
    ·cases h
   ·cases h
  ·rename_i len e hu
   split at h
   ·rename_i hs
    simp at hs
    cases he:szOf P e with
    | none =>
     simp [he] at hs
     unfold szOf at hs
     cases hi:P.info? t with
     | none=>unfold Program.underlying at hu; simp [hi] at hu
     | some i=>simp [hi] at hs
    | some s =>
     rw [he] at hs
     simp at hs
     cases hde:P.underlying e with
     | none =>
      cases len with
      | zero =>
       simp [eqNs] at h
       obtain ⟨rfl,rfl,rfl⟩:=h
       simp at hs
       refine ⟨0,_,hu,hs,fun ha=>by simp [isAggB] at ha,by simp,hx,fun em n hn w=>?_⟩
       obtain ⟨n',rfl⟩:∃ n',n=n' + 1:=⟨n - 1,by omega⟩
       simp [tval,isAggB,run_ck_array em n' _ hu he,ckItems]
      | succ len =>
       unfold eqNs at h
       split at h
       ·cases h
       ·rename_i r hr
        obtain ⟨r1,r2,r3⟩:=r
        obtain ⟨s',ds,h1,_⟩:=ih e _ _ _ _ _ hr _ hx
        rw [hde] at h1; cases h1
     | some de =>
      have h0:=ckNs_ok (ih e) he hde len xs ys b xs' ys' h vx 0 (len * s) (by simp) (by simpa using hx)
      simp only [Nat.zero_add] at h0
      obtain ⟨g1,g2,g4⟩:=h0
      refine ⟨len * s,_,hu,hs,fun ha=>by simp [isAggB] at ha,?_,g2,fun em n hn w=>?_⟩
      ·by_cases h0:len=0
       ·subst h0; simp
       ·exact g1 h0
      ·obtain ⟨n',rfl⟩:∃ n',n=n' + 1:=⟨n - 1,by omega⟩
       simp only [tval,isAggB,if_true,run_ck_array em n' _ hu he]
       exact g4 em n' (by omega) w
   ·cases h
  ·rename_i fs hu
   split at h
   ·cases h
   ·rename_i hst
    split at h
    ·rename_i r hr
     obtain ⟨r1,r2,r3,r4⟩:=r
     split at h
     ·rename_i hs
      simp at hs h
      obtain ⟨rfl,rfl,rfl⟩:=h
      obtain ⟨hle,hrest⟩:=ckFs_ok (d:=d) ih fs.toList 0 _ _ _ _ _ _ hr
      obtain ⟨g1,g2,g4⟩:=hrest vx r2 (Nat.le_refl _) (by simpa using hx)
      refine ⟨r2,_,hu,hs,fun ha=>by simp [isAggB] at ha,by omega,g2,fun em n hn w=>?_⟩
      obtain ⟨n',rfl⟩:∃ n',n=n' + 1:=⟨n - 1,by omega⟩
      simp only [tval,isAggB,if_true,run_ck_struct em n' _ hu]
      exact g4 em n' (by omega) w
     ·cases h
    ·cases h
  ·cases h
theorem keyOk_ok {kt:TypeId} {key:V} {k:Value} (h:keyOk P kt key=true) (hr:key.R ρ k) (em:Bool) (w:World):(Instr.checkKey em 10000 kt k).run P w=.ok () w:=by
 unfold keyOk at h
 simp only [Bool.and_eq_true] at h
 have h:=h.1
 unfold lookM.keyEq at h
 split at h
 ·rename_i xs ys e1 e2
  split at h
  ·cases h
  ·rename_i hg
   split at h
   ·rename_i r hw
    obtain ⟨vx,rfl,rx⟩:=hr
    obtain ⟨s0,ds,g1,g2,g3,g4,g6,g8⟩:=ckW_ok (ρ:=ρ) 20 kt _ _ _ _ _ hw _ rx
    have ha:isAggB ds=true:=by simp [g1] at hg; exact hg
    have l1:vx.take s0=vx:=List.take_of_length_le (by have:=CRs.length g6; simp at this; omega)
    have h8:=g8 em 10000 (by decide) w
    rw [l1] at h8
    simpa [tval,ha] using h8
   ·cases h
 ·split at h
  ·cases h
  ·rename_i hg
   split at h
   ·rename_i r hw
    obtain ⟨s0,ds,g1,g2,g3,g4,g6,g8⟩:=ckW_ok (ρ:=ρ) 1 kt _ _ _ _ _ hw [k] ⟨hr,trivial⟩
    have h8:=g8 em 10000 (by decide) w
    have hl:=CRs.length g6
    simp at hl g4
    have hs1:s0=1:=by omega
    subst hs1
    have ha:isAggB ds=false:=by simp [g1] at hg; exact hg
    simpa [tval,ha] using h8
   ·cases h
 ·cases h
theorem keyEq_agg {kt:TypeId} {xs ys:List CV} {b:Bool} {k k':Value} (h:lookM.keyEq P kt (.agg xs) (.agg ys)=some b) (h1:(V.agg xs).R ρ k) (h2:(V.agg ys).R ρ k') (w:World):(Go.Op.equal kt k k').run P w=.ok b w:=by
 simp only [lookM.keyEq] at h
 split at h
 ·cases h
 ·rename_i hg
  split at h
  ·rename_i r hw
   cases h
   obtain ⟨vx,rfl,rx⟩:=h1
   obtain ⟨vy,rfl,ry⟩:=h2
   obtain ⟨s0,ds,g1,g2,g3,g4,g5,g6,g7,g8⟩:=eqW_ok (ρ:=ρ) 20 kt _ _ _ _ _ hw _ _ rx ry
   have ha:isAggB ds=true:=by simp [g1] at hg; exact hg
   have l1:vx.take s0=vx:=List.take_of_length_le (by have:=CRs.length g6; simp at this; omega)
   have l2:vy.take s0=vy:=List.take_of_length_le (by have:=CRs.length g7; simp at this; omega)
   have h8:=g8 10000 (by decide) w
   rw [l1,l2] at h8
   simpa only [tval,ha,if_true,Go.Op.equal,Go.Op.maxDepth] using h8
  ·cases h
theorem keyEq_one {kt:TypeId} {x y:CV} {b:Bool} {k k':Value} (h:lookM.keyEq P kt (.one x) (.one y)=some b) (h1:x.R ρ k) (h2:y.R ρ k'):∃ d,P.underlying kt=some d ∧ Instr.sameNow d k k'=some b:=by
 simp only [lookM.keyEq] at h
 split at h
 ·cases h
 ·rename_i hg
  split at h
  ·rename_i r hw
   cases h
   unfold eqW at hw
   split at hw
   ·rename_i k0 hu
    split at hw
    ·rename_i q i xs1 q' j ys1 e1 e2
     cases e1; cases e2
     split at hw
     ·rename_i hk
      simp at hk hw
      obtain ⟨rfl,_⟩:=hk
      obtain rfl:k=_:=h1
      obtain rfl:k'=_:=h2
      refine ⟨_,hu,?_⟩
      simp only [Instr.sameNow,if_true]
      rw [← intEq_ok,hw]
     ·cases hw
    ·cases hw
   ·rename_i hu
    split at hw
    ·rename_i i xs1 j ys1 e1 e2
     cases e1; cases e2
     split at hw
     ·simp at hw
      obtain rfl:k=_:=h1
      obtain rfl:k'=_:=h2
      refine ⟨_,hu,?_⟩
      simp only [Instr.sameNow]
      rw [hw]
     ·cases hw
    ·cases hw
   ·rename_i hu
    split at hw
    ·rename_i i xs1 j ys1 e1 e2
     cases e1; cases e2
     split at hw
     ·simp at hw
      obtain ⟨s1,rfl,rfl⟩:=h1
      obtain ⟨s2,rfl,rfl⟩:=h2
      refine ⟨_,hu,?_⟩
      simp only [Instr.sameNow]
      rw [str_beq',hw]
     ·cases hw
    ·cases hw
   ·rename_i hu; simp [hu,isAggB] at hg
   ·rename_i hu; simp [hu,isAggB] at hg
   ·cases hw
  ·cases h
theorem keyEq_form {kt:TypeId} {u v:V} {b:Bool} (h:lookM.keyEq P kt u v=some b):(∃ xs ys,u=.agg xs ∧ v=.agg ys) ∨ ∃ x y,u=.one x ∧ v=.one y:=by
 unfold lookM.keyEq at h
 split at h
 ·exact .inl ⟨_,_,rfl,rfl⟩
 ·exact .inr ⟨_,_,rfl,rfl⟩
 ·cases h
def Found (r:Option (Nat × ME)) (fs:List MapEntry) (i:Nat) (q:Option (Nat × Value)):Prop :=
 match r with
 | none=>q=none
 | some (j,e)=>∃ f,fs[j]?=some f ∧ q=some (i + j,f.val)
theorem lookM_get {kt:TypeId} {key:V}:∀ {es:List ME} {j:Nat} {e:ME},lookM P kt key es=some (some (j,e)) → es[j]?=some e
 | [],j,e,h=>by cases h
 | e' :: es,j,e,h=>by
  unfold lookM at h
  split at h
  ·cases h
  ·cases h; rfl
  ·split at h
   ·rename_i i e2 hi
    cases h
    simpa using lookM_get hi
   ·rename_i hr
    exact absurd h (hr _ _)
theorem find_one {kt:TypeId} {x:CV} {k:Value} {d:TypeDesc} (hd:P.underlying kt=some d) (hk:x.R ρ k):∀ {es:List ME} {fs:List MapEntry} {r:Option (Nat × ME)} (i:Nat),MEs ρ es fs → lookM P kt (.one x) es=some r →
  ∃ q,Instr.findNow d k fs i=some q ∧ Found r fs i q
 | [],[],r,i,_,h=>by simp [lookM] at h; subst h; exact ⟨none,rfl,rfl⟩
 | [],_ :: _,_,_,h,_=>h.elim
 | _ :: _,[],_,_,h,_=>h.elim
 | e :: es,f :: fs,r,i,hm,h=>by
  unfold lookM at h
  split at h
  ·cases h
  ·rename_i he
   cases h
   rcases keyEq_form he with ⟨_,_,e1,_⟩ | ⟨y,y',e1,e2⟩
   ·cases e1
   ·cases e1
    have hky:=hm.1.1
    rw [e2] at he hky
    obtain ⟨d',h1,h2⟩:=keyEq_one he hk hky
    rw [hd] at h1; cases h1
    exact ⟨some (i,f.val),by simp [Instr.findNow,h2],f,rfl,by simp⟩
  ·rename_i he
   rcases keyEq_form he with ⟨_,_,e1,_⟩ | ⟨y,y',e1,e2⟩
   ·cases e1
   ·cases e1
    have hky:=hm.1.1
    rw [e2] at he hky
    obtain ⟨d',h1,h2⟩:=keyEq_one he hk hky
    rw [hd] at h1; cases h1
    have hfn:Instr.findNow d k (f :: fs) i=Instr.findNow d k fs (i + 1):=by simp [Instr.findNow,h2]
    split at h
    ·rename_i j e3 hi
     cases h
     obtain ⟨q,g1,f',g2,g3⟩:=find_one hd hk (i + 1) hm.2 hi
     exact ⟨q,by rw [hfn]; exact g1,f',by simpa using g2,by rw [g3]; congr 2; omega⟩
    ·rename_i hr
     obtain ⟨q,g1,g2⟩:=find_one hd hk (i + 1) hm.2 h
     refine ⟨q,by rw [hfn]; exact g1,?_⟩
     cases r with
     | none=>exact g2
     | some je=>exact absurd h (hr je.1 je.2)
theorem find_agg {kt:TypeId} {xs:List CV} {k:Value} (hk:(V.agg xs).R ρ k):∀ {es:List ME} {fs:List MapEntry} {r:Option (Nat × ME)} (i:Nat),MEs ρ es fs → lookM P kt (.agg xs) es=some r →
  ∃ q,(∀ w,(Instr.findAsking kt k fs i).run P w=.ok q w) ∧ Found r fs i q
 | [],[],r,i,_,h=>by simp [lookM] at h; subst h; exact ⟨none,fun w=>rfl,rfl⟩
 | [],_ :: _,_,_,h,_=>h.elim
 | _ :: _,[],_,_,h,_=>h.elim
 | e :: es,f :: fs,r,i,hm,h=>by
  unfold lookM at h
  split at h
  ·cases h
  ·rename_i he
   cases h
   rcases keyEq_form he with ⟨_,ys,e1,e2⟩ | ⟨y,y',e1,e2⟩
   ·cases e1
    have hky:=hm.1.1
    rw [e2] at he hky
    exact ⟨some (i,f.val),fun w=>by simp [Instr.findAsking,keyEq_agg he hk hky w],f,rfl,by simp⟩
   ·cases e1
  ·rename_i he
   rcases keyEq_form he with ⟨_,ys,e1,e2⟩ | ⟨y,y',e1,e2⟩
   ·cases e1
    have hky:=hm.1.1
    rw [e2] at he hky
    have hfn:∀ w,(Instr.findAsking kt k (f :: fs) i).run P w=(Instr.findAsking kt k fs (i + 1)).run P w:=fun w=>by simp [Instr.findAsking,keyEq_agg he hk hky w]
    split at h
    ·rename_i j e3 hi
     cases h
     obtain ⟨q,g1,f',g2,g3⟩:=find_agg hk (i + 1) hm.2 hi
     exact ⟨q,fun w=>by rw [hfn]; exact g1 w,f',by simpa using g2,by rw [g3]; congr 2; omega⟩
    ·rename_i hr
     obtain ⟨q,g1,g2⟩:=find_agg hk (i + 1) hm.2 h
     refine ⟨q,fun w=>by rw [hfn]; exact g1 w,?_⟩
     cases r with
     | none=>exact g2
     | some je=>exact absurd h (hr je.1 je.2)
   ·cases e1
theorem find_ok {kt:TypeId} {key:V} {k:Value} {es:List ME} {fs:List MapEntry} {r:Option (Nat × ME)} (ho:keyOk P kt key=true) (hk:key.R ρ k) (hm:MEs ρ es fs) (h:lookM P kt key es=some r) :
  ∃ q,(∀ w,(Instr.findKey kt k fs).run P w=.ok q w) ∧ Found r fs 0 q:=by
 have hd:∃ d,P.underlying kt=some d:=by
  cases hu:P.underlying kt with
  | some d=>exact ⟨d,rfl⟩
  | none =>
   exfalso
   unfold keyOk lookM.keyEq at ho
   simp only [Bool.and_eq_true] at ho
   have ho:=ho.1
   split at ho
   ·simp [hu] at ho
   ·simp only [hu,Option.any_none,Bool.false_eq_true,if_false] at ho
    split at ho
    ·rename_i hw; unfold eqW at hw; rw [hu] at hw; cases hw
    ·cases ho
   ·cases ho
 obtain ⟨d,hu⟩:=hd
 cases key with
 | one x =>
  obtain ⟨q,g1,g2⟩:=find_one hu hk 0 hm h
  refine ⟨q,fun w=>?_,g2⟩
  simp [Instr.findKey,run_underlying hu,g1]
 | agg xs =>
  obtain ⟨q,g1,g2⟩:=find_agg hk 0 hm h
  refine ⟨q,fun w=>?_,g2⟩
  obtain ⟨vx,rfl,rx⟩:=hk
  cases fs with
  | nil =>
   cases es with
   | nil=>simp [lookM] at h; subst h; simp only [Found] at g2; subst g2; simp [Instr.findKey,run_underlying hu,Instr.findNow]
   | cons _ _=>exact hm.elim
  | cons f fs =>
   have:Instr.findNow d (.agg vx.toArray) (f :: fs) 0=none:=by
    have hs:Instr.sameNow d (.agg vx.toArray) f.key=none:=by cases d <;> rfl
    simp [Instr.findNow,hs]
   simp [Instr.findKey,run_underlying hu,this,g1]
end
section
variable {P:Program} {Z S:Nat → Prop} {F:Nat → Option Obj} {w0 w:World} {ρ:Rho} {σ:St} {a:Act} {o:Oper} {s:SV}
theorem zeroOf_ok {t:TypeId} {z:V} (h:zeroOf P t=some z):∃ i v,P.info? t=some i ∧ i.zero=some v ∧ (∀ ρ,z.R ρ v) ∧ z.cells.all CV.solid=true ∧ ∀ w,(zeroValue t).run P w=.ok v w:=by
 unfold zeroOf at h
 split at h
 ·rename_i i hi
  split at h
  ·rename_i v hv
   exact ⟨i,v,hi,hv,fun ρ=>(vOf_R h).1,(vOf_R (ρ:=fun _=>none) h).2,fun w=>Sx.run_zeroValue hi hv⟩
  ·cases h
 ·cases h
theorem MEs.get:∀ {es:List ME} {fs:List MapEntry},MEs ρ es fs → ∀ {j:Nat} {e:ME},es[j]?=some e → ∃ f,fs[j]?=some f ∧ e.key.R ρ f.key ∧ e.val.R ρ f.val ∧ f.born=e.born
 | [],[],_,j,e,h=>by simp at h
 | [],_ :: _,h,_,_,_=>h.elim
 | _ :: _,[],h,_,_,_=>h.elim
 | e1 :: es,f1 :: fs,hm,0,e,h=>by simp at h; subst h; exact ⟨f1,rfl,hm.1⟩
 | e1 :: es,f1 :: fs,hm,j + 1,e,h=>by simpa using MEs.get hm.2 (by simpa using h)
theorem l_lookup {t:TypeId} {m k:Operand} {ok:Bool} (hw:WR Z S F w0 ρ σ.heap σ.next w) (hv:HV ρ σ a o) (ho:o.op=.lookup t m k ok) (hp:light P σ o=some s):LOk P ρ a w o s:=by
 unfold light at hp; rw [ho] at hp; simp only at hp
 split at hp
 ·rename_i kt et key hu hk
  have hk':=hv.v (x:=k) (by simp [ho,Op.operands]) hk
  split at hp
  ·rename_i es hes
   have hmap:∃ fs:Array MapEntry,MEs ρ es fs.toList ∧ ((a.eval m=.map none ∧ fs=#[]) ∨ ∃ r clock,a.eval m=.map (some r) ∧ w.heap[r]?=some (.map fs clock)):=by
    split at hes
    ·rename_i hm
     cases hes
     have:a.eval m=.map none:=hv.c (x:=m) (by simp [ho,Op.operands]) hm
     exact ⟨#[],trivial,.inl ⟨this,rfl⟩⟩
    ·rename_i id hm
     obtain ⟨p,h1,h2⟩:=hv.c (x:=m) (by simp [ho,Op.operands]) hm
     split at hes
     ·rename_i es' clock hob
      cases hes
      obtain ⟨g1,ar,g2,g3⟩:=hw.ob id p _ h1 hob
      exact ⟨ar,g3,.inr ⟨p.b,clock,h2,g2⟩⟩
     ·cases hes
    ·cases hes
   obtain ⟨fs,hm,hform⟩:=hmap
   split at hp
   ·cases hp
   ·rename_i hko
    have hko:keyOk P kt key=true:=by simpa using hko
    have hck:=fun em=>keyOk_ok hko hk' em w
    have run:∀ {q:Option (Nat × Value)} {v:Value} {b:Bool},(∀ w,(Instr.findKey kt (a.eval k) fs.toList).run P w=.ok q w) → (match q with | some (_,u)=>u=v ∧ b=true | none=>(∀ w,(zeroValue et).run P w=.ok v w) ∧ b=false) →
      (execOp a.eval o).run P w=.ok (.value (if ok then .tuple #[v,.bool b] else v)) w:=by
     intro q v b hq hv2
     simp only [execOp,ho]
     rcases hform with ⟨e1,e2⟩ | ⟨r,clock,e1,e2⟩
     ·subst e2
      rw [e1]
      simp only [Instr.lookup,Sem.run_bind,run_underlying hu,Result.andThen_ok,Sem.run_pure,hck,hq]
      cases q with
      | none=>simp only [Sem.run_bind,hv2.1 w,Result.andThen_ok,Sem.run_pure,hv2.2]
      | some u=>obtain ⟨u1,u2⟩:=u; rw [hv2.1,hv2.2]; simp
     ·rw [e1]
      simp only [Instr.lookup,Sem.run_bind,run_underlying hu,Result.andThen_ok,Sem.run_pure,run_getMap e2,hck,hq]
      cases q with
      | none=>simp only [Sem.run_bind,hv2.1 w,Result.andThen_ok,Sem.run_pure,hv2.2]
      | some u=>obtain ⟨u1,u2⟩:=u; rw [hv2.1,hv2.2]; simp
    split at hp
    ·rename_i j e hl
     obtain ⟨q,g1,f,g2,g3⟩:=find_ok hko hk' hm hl
     have hfr:∃ f',fs.toList[j]?=some f' ∧ e.val.R ρ f'.val:=by
      obtain ⟨f',k1,k2⟩:=hm.get (lookM_get hl)
      exact ⟨f',k1,k2.2.1⟩
     obtain ⟨f',k1,k2⟩:=hfr
     rw [g2] at k1; cases k1
     rw [g3] at g1
     have hrun:=run (v:=f.val) (b:=true) g1 ⟨rfl,rfl⟩
     cases hp
     refine ⟨_,hrun,?_⟩
     cases ok with
     | true=>exact ⟨[f.val,.bool true],rfl,k2,rfl,trivial⟩
     | false=>exact k2
    ·rename_i hl
     obtain ⟨q,g1,g2⟩:=find_ok hko hk' hm hl
     have g2:q=none:=g2
     subst g2
     split at hp
     ·rename_i z hz
      obtain ⟨i,v,z1,z2,z3,z4,z5⟩:=zeroOf_ok hz
      have hrun:=run (v:=v) (b:=false) g1 ⟨z5,rfl⟩
      cases hp
      refine ⟨_,hrun,?_⟩
      cases ok with
      | true=>exact ⟨[v,.bool false],rfl,z3 ρ,rfl,trivial⟩
      | false=>exact z3 ρ
     ·cases hp
    ·cases hp
  ·cases hp
 ·cases hp
theorem l_typeAssert {x:Operand} {xt t:TypeId} {ok:Bool} (hv:HV ρ σ a o) (ho:o.op=.typeAssert x xt t ok) (hp:light P σ o=some s):LOk P ρ a w o s:=by
 unfold light at hp; rw [ho] at hp; simp only at hp
 have fin:∀ {r:Value},(Instr.typeAssert (a.eval x) xt t ok).run P w=.ok r w → (execOp a.eval o).run P w=.ok (.value r) w:=by
  intro r hr
  simp only [execOp,ho]; simp [hr]
 split at hp
 ·rename_i t' c hx
  obtain ⟨u,h1,h2,h3⟩:=hv.c (x:=x) (by simp [ho,Op.operands]) hx
  split at hp
  ·cases hp
  ·rename_i d hni hd
   split at hp
   ·rename_i ht
    have ht:t'=t:=by simpa using ht
    subst ht
    have hrun:(Instr.typeAssert (a.eval x) xt t' ok).run P w=.ok (if ok then .tuple #[u,.bool true] else u) w:=by
     rw [h1]
     simp only [Instr.typeAssert,Sem.run_bind,run_underlying hd,Result.andThen_ok]
     cases d <;> first | (exact absurd rfl (hni _)) | simp
    cases ok with
    | true=>simp at hp; subst hp; exact ⟨_,fin hrun,[u,.bool true],rfl,h2,rfl,trivial⟩
    | false=>simp at hp; subst hp; exact ⟨_,fin hrun,h2⟩
   ·rename_i ht
    have ht:¬ t'=t:=by simpa using ht
    split at hp
    ·rename_i hok
     subst hok
     split at hp
     ·rename_i z hz
      cases hp
      obtain ⟨i,v,z1,z2,z3,z4,z5⟩:=zeroOf_ok hz
      have hrun:(Instr.typeAssert (a.eval x) xt t true).run P w=.ok (.tuple #[v,.bool false]) w:=by
       rw [h1]
       simp only [Instr.typeAssert,Sem.run_bind,run_underlying hd,Result.andThen_ok]
       cases d <;> first | (exact absurd rfl (hni _)) | simp [ht,z5 w]
      exact ⟨_,fin hrun,[v,.bool false],rfl,z3 ρ,rfl,trivial⟩
     ·cases hp
    ·cases hp
  ·cases hp
 ·rename_i hx
  have h1:a.eval x=.nilIface:=hv.c (x:=x) (by simp [ho,Op.operands]) hx
  split at hp
  ·rename_i hok
   subst hok
   split at hp
   ·cases hp
   ·rename_i d hni hd
    split at hp
    ·rename_i z hz
     cases hp
     obtain ⟨i,v,z1,z2,z3,z4,z5⟩:=zeroOf_ok hz
     have hrun:(Instr.typeAssert (a.eval x) xt t true).run P w=.ok (.tuple #[v,.bool false]) w:=by
      rw [h1]
      simp only [Instr.typeAssert,Sem.run_bind,run_underlying hd,Result.andThen_ok]
      cases d <;> first | (exact absurd rfl (hni _)) | simp [z5 w]
     exact ⟨_,fin hrun,[v,.bool false],rfl,z3 ρ,rfl,trivial⟩
    ·cases hp
   ·cases hp
  ·cases hp
 ·cases hp
theorem run_getIter {r:Nat} {m:Option Nat} {since last:Nat} {seen:Array Nat} (h:w.heap[r]?=some (.mapIter m since seen last)):(getObj r).run P w=.ok (.mapIter m since seen last) w:=by
 simp only [getObj,Sem.run,h]
theorem MEs.find {n:Nat}:∀ {es:List ME} {fs:List MapEntry},MEs ρ es fs → ∀ {e:ME},es.find? (fun e=>Nat.beq e.born n)=some e → ∃ f,fs.find? (fun f=>f.born == n)=some f ∧ e.key.R ρ f.key ∧ e.val.R ρ f.val
 | [],[],_,e,h=>by simp at h
 | [],_ :: _,h,_,_=>h.elim
 | _ :: _,[],h,_,_=>h.elim
 | e1 :: es,f1 :: fs,hm,e,h=>by
  rw [List.find?_cons] at h ⊢
  have hb:(f1.born == n)=Nat.beq e1.born n:=by rw [hm.1.2.2,Bool.eq_iff_iff]; simp
  rw [hb]
  cases hq:Nat.beq e1.born n with
  | true=>rw [hq] at h; cases h; exact ⟨f1,rfl,hm.1.1,hm.1.2.1⟩
  | false=>rw [hq] at h; exact MEs.find hm.2 h
theorem l_entry {x:Operand} (hw:WR Z S F w0 ρ σ.heap σ.next w) (hv:HV ρ σ a o) (ho:o.op=.entry x) (hp:light P σ o=some s):LOk P ρ a w o s:=by
 unfold light at hp; rw [ho] at hp; simp only at hp
 split at hp
 ·rename_i id hx
  obtain ⟨p,h1,h2⟩:=hv.c (x:=x) (by simp [ho,Op.operands]) hx
  split at hp
  ·rename_i m since seen last hob
   obtain ⟨g1,g0,m',g2,q,g3,g4⟩:=hw.ob id p _ h1 hob
   subst g4
   split at hp
   ·rename_i stamp es clock hs hom
    split at hp
    ·rename_i hcl
     have hcl:clock=last:=by simpa using hcl
     subst hcl
     obtain ⟨k1,ar,k2,k3⟩:=hw.ob m q _ g3 hom
     split at hp
     ·rename_i e he
      cases hp
      obtain ⟨f,j1,j2,j3⟩:=k3.find he
      refine ⟨.tuple #[f.key,f.val],?_,[f.key,f.val],rfl,j2,j3,trivial⟩
      have hp0:p.at 0=⟨p.b,0,none⟩:=by simp [Pl.at,g0]
      have hback:seen.toArray.back?=some stamp:=by simpa using hs
      have hfa:ar.find? (fun x=>x.born == stamp)=some f:=by rw [← Array.find?_toList]; exact j1
      simp only [execOp,ho,h2,hp0,Instr.entry]
      simp only [Sem.run_bind,run_getIter g2,Result.andThen_ok,hback,run_getMap k2,hfa,bne_self_eq_false,Bool.false_eq_true,if_false,Sem.run_pure]
     ·cases hp
    ·cases hp
   ·cases hp
  ·cases hp
 ·cases hp
theorem light_ok (hw:WR Z S F w0 ρ σ.heap σ.next w) (hv:HV ρ σ a o) (hp:light P σ o=some s):LOk P ρ a w o s:=by
 cases ho:o.op with
 | move x=>exact l_move hv (.inl ho) hp
 | assign x=>exact l_move hv (.inr ho) hp
 | pick c x y=>exact l_pick hv ho hp
 | load t x=>exact l_load hw hv ho hp
 | nilCheck x=>exact l_nilCheck hv ho hp
 | binOp op t x y yt=>exact l_binOp hv ho hp
 | unOp op t x=>exact l_unOp hv ho hp
 | convert t d x=>exact l_convert hw hv ho hp
 | makeFunc f l c=>exact l_makeFunc hv ho hp
 | makeInterface t x=>exact l_makeInterface hv ho hp
 | fieldAddr t x f=>exact l_fieldAddr hv ho hp
 | field t x f=>exact l_field hv ho hp
 | indexAddr t x i=>exact l_indexAddr hv ho hp
 | index t x i=>exact l_index hv ho hp
 | slice t x lo hi mx=>exact l_slice hw hv ho hp
 | lookup t m k ok=>exact l_lookup hw hv ho hp
 | extract x i=>exact l_extract hv ho hp
 | typeAssert x xt t ok=>exact l_typeAssert hv ho hp
 | entry x=>exact l_entry hw hv ho hp
 | sliceToArrayPointer t x=>exact l_s2ap hv ho hp
 | call c=>exact l_len hw hv ho hp
 | _=>unfold light at hp; rw [ho] at hp; cases hp
end
section
variable {P:Program} {Z S:Nat → Prop} {F:Nat → Option Obj} {w0 w:World} {ρ:Rho} {σ:St} {a:Act} {o:Oper} {s:SV}
theorem fillC_ok {place:Nat → Option (Nat × Nat)}:∀ (parts:List (Nat × Value)) (l:List (Nat × List CV)),
  (l.length=parts.length ∧ ∀ (i:Nat) p q,l[i]?=some p → parts[i]?=some q → p.1=q.1 ∧ ∃ vs:List Value,q.2.cells=vs.toArray ∧ CRs ρ p.2 vs) →
  ∀ (cells cs:List CV) (zs:List Value),CRs ρ cells zs → fillC place cells l=some cs → ∃ vs:List Value,Instr.fill place zs.toArray parts=some vs.toArray ∧ CRs ρ cs vs:=by
 intro parts
 induction parts with
 | nil =>
  intro l hl cells cs zs hz h
  cases l with
  | nil=>simp [fillC] at h; subst h; exact ⟨zs,rfl,hz⟩
  | cons x l=>simp at hl
 | cons q parts ih =>
  intro l hl cells cs zs hz h
  cases l with
  | nil=>simp at hl
  | cons x l =>
   obtain ⟨hlen,hrel⟩:=hl
   obtain ⟨h1,vs,h2,h3⟩:=hrel 0 x q rfl rfl
   obtain ⟨xi,xv⟩:=x
   obtain ⟨qi,qv⟩:=q
   simp only at h1 h2 h3
   subst h1
   unfold fillC at h
   unfold Instr.fill
   split at h
   ·cases h
   ·rename_i off size hp
    rw [hp]
    split at h
    ·cases h
    ·rename_i hn
     simp only [ne_eq,Bool.or_eq_true,decide_eq_true_eq,not_or,decide_not,Bool.not_eq_eq_eq_not,Bool.not_true] at hn
     have hlen':=CRs.length h3
     have hlz:=CRs.length hz
     have hc1:qv.cells.size=size:=by rw [h2]; simp; simp at hn; omega
     have hc2:¬ off + qv.cells.size > zs.toArray.size:=by rw [h2]; simp; simp at hn; omega
     simp only [hc1,ne_eq,not_true_eq_false,decide_false,Bool.false_or]
     rw [hc1] at hc2
     rw [if_neg (by simpa using hc2)]
     have hfold:=foldl_arr off qv.cells zs.toArray (by rw [hc1]; simpa using hc2)
     refine (ih l ⟨by simpa using hlen,fun i p q hp hq=>hrel (i + 1) p q (by simpa using hp) (by simpa using hq)⟩ _ cs (zs.take off ++ vs ++ zs.drop (off + vs.length)) ?_ h).imp ?_
     ·rw [hlen']
      exact ((hz.take off).app h3).app (hz.drop _)
     ·rintro us ⟨hu1,hu2⟩
      refine ⟨?_,hu2⟩
      rw [← hu1]
      congr 1
      rw [hfold,h2]
      simp
theorem parts_ok (hv:HV ρ σ a o):∀ (ps:List (Nat × Operand)),(∀ p ∈ ps,p.2 ∈ o.op.operands.toList) → ∀ (l:List (Nat × List CV)),mapO (partOf σ) ps=some l →
  (l.length=(ps.map fun (i,x)=>(i,a.eval x)).length ∧ ∀ (i:Nat) p q,l[i]?=some p → (ps.map fun (i,x)=>(i,a.eval x))[i]?=some q → p.1=q.1 ∧ ∃ vs:List Value,q.2.cells=vs.toArray ∧ CRs ρ p.2 vs):=by
 intro ps
 induction ps with
 | nil=>intro _ l hl; simp [mapO] at hl; subst hl; simp
 | cons x ps ih =>
  intro hm l hl
  unfold mapO at hl
  split at hl
  ·cases hl
  ·rename_i y hy
   split at hl
   ·cases hl
   ·rename_i ys hys
    cases hl
    obtain ⟨h1,h2⟩:=ih (fun p hp=>hm p (by simp [hp])) ys hys
    refine ⟨by simpa using h1,fun i p q hp hq=>?_⟩
    cases i with
    | zero =>
     simp at hp hq
     subst hp hq
     unfold partOf at hy
     split at hy
     ·rename_i v hvv
      split at hy
      ·rename_i hs
       cases hy
       obtain ⟨vs,g1,g2,_⟩:=V.R.cells (hv.v (hm x (by simp)) hvv) hs
       exact ⟨rfl,vs,g1,g2⟩
      ·cases hy
     ·cases hy
    | succ i=>exact h2 i p q (by simpa using hp) (by simpa using hq)
theorem parts_mem {ps:Array (Nat × Operand)} {t:TypeId} (h:o.op=.build t ps ∨ ∃ n,o.op=.buildSlice t n ps):∀ p ∈ ps.toList,p.2 ∈ o.op.operands.toList:=by
 intro p hp
 rcases h with h | ⟨n,h⟩ <;> (rw [h]; simp only [Op.operands]; simp; exact ⟨p.1,by simpa using hp⟩)
theorem places_ok {P:Program}:∀ (fs:List Field) (l:List (Nat × Nat)),mapO (fun f:Field=>(szOf P f.type).map fun s=>(f.offset,s)) fs=some l → fs.mapM (fun f=>(P.info? f.type).map fun i=>(f.offset,i.size))=some l
 | [],l,h=>by simp [mapO] at h; subst h; rfl
 | f :: fs,l,h=>by
  unfold mapO at h
  split at h
  ·cases h
  ·rename_i y hy
   split at h
   ·cases h
   ·rename_i ys hys
    cases h
    have h1:(P.info? f.type).map (fun i=>(f.offset,i.size))=some y:=by
     unfold szOf at hy
     cases hi:P.info? f.type with
     | none=>simp [hi] at hy
     | some i=>simp [hi] at hy; simp [hy]
    have h2:=places_ok fs ys hys
    rw [List.mapM_cons]
    simp [h1,h2]
theorem build_ok (hv:HV ρ σ a o) (hp:buildC P σ o=some s):LOk P ρ a w o s:=by
 unfold buildC at hp
 split at hp
 ·rename_i t ps ho
  have fin:∀ {cs:Array Value},P.built t (ps.map fun (i,x)=>(i,a.eval x)).toList=some cs → (execOp a.eval o).run P w=.ok (.value (.agg cs)) w:=by
   intro cs hc
   simp only [execOp,ho]
   simp [run_build w t _ cs hc]
  split at hp
  ·rename_i fs zv l hu hz hl
   obtain ⟨i,z,z1,z2,z3,z4,z5⟩:=zeroOf_ok hz
   obtain ⟨zs,hz1,hz2,_⟩:=V.R.cells (z3 ρ) z4
   split at hp
   ·rename_i places hpl
    cases hf:fillC (places[·]?) zv.cells l with
    | none=>rw [hf] at hp; cases hp
    | some cs =>
     rw [hf] at hp; cases hp
     obtain ⟨vs,hv1,hv2⟩:=fillC_ok _ l (parts_ok hv ps.toList (parts_mem (.inl ho)) l hl) _ _ _ hz2 hf
     refine ⟨.agg vs.toArray,fin ?_,vs,rfl,hv2⟩
     have e:(fun j:Nat=>places[j]?)=fun j:Nat=>places.toArray[j]?:=by funext j; simp
     rw [e] at hv1
     have h2:=places_ok _ _ hpl
     simp only [Program.built,z1,hu,z2,h2,hz1]
     simpa using hv1
   ·cases hp
  ·rename_i n e zv l hu hz hl
   obtain ⟨i,z,z1,z2,z3,z4,z5⟩:=zeroOf_ok hz
   obtain ⟨zs,hz1,hz2,_⟩:=V.R.cells (z3 ρ) z4
   split at hp
   ·rename_i sz hs
    cases hf:fillC (fun i=>some (i * sz,sz)) zv.cells l with
    | none=>rw [hf] at hp; cases hp
    | some cs =>
     rw [hf] at hp; cases hp
     obtain ⟨vs,hv1,hv2⟩:=fillC_ok _ l (parts_ok hv ps.toList (parts_mem (.inl ho)) l hl) _ _ _ hz2 hf
     refine ⟨.agg vs.toArray,fin ?_,vs,rfl,hv2⟩
     unfold szOf at hs
     cases he:P.info? e with
     | none=>simp [he] at hs
     | some ie =>
      simp [he] at hs
      subst hs
      simp only [Program.built,z1,hu,z2,he,hz1]
      simpa using hv1
   ·cases hp
  ·cases hp
 ·cases hp
def MOk (P:Program) (Z S:Nat → Prop) (F:Nat → Option Obj) (w0:World) (ρ:Rho) (H:T Ob) (nx:Nat) (a:Act) (w:World) (o:Oper) (id:Nat) (c:CV):Prop :=
 ∃ p v w',(execOp a.eval o).run P w=.ok (.value v) w' ∧ c.R (ρ.bind id p) v ∧ WR Z S F w0 (ρ.bind id p) H nx w'
variable {H:T Ob} {nx:Nat}
theorem alloc_size (u:World) (x:Obj):(u.alloc x).heap.size=u.heap.size + 1:=by simp [World.alloc,-World.alloc_eq]
theorem alloc_at (u:World) (x:Obj):(u.alloc x).heap[u.heap.size]?=some x:=by simp [World.alloc,-World.alloc_eq]
theorem new_cells (h:WR Z S F w0 ρ H nx w) {id:Nat} (hn:ρ id=none) (hz:¬ Z id) (hid:id < nx) {cs:List CV} {vs rest:List Value} {t:TypeId} {fz:Nat × Nat} (hr:CRs ρ cs vs) {z:Nat} {u:World} (hu:WR Z S F w0 ρ H nx u) (hus:u.heap.size=w.heap.size)
  (hf:fz.1=fz.2 ∨ (vs ++ rest).length ≤ fz.1) (hH:∀ x,H.at id=some x → x=.cells (Row.new cs) true z) :
  WR Z S F w0 (ρ.bind id ⟨w.heap.size,0,(vs ++ rest).length,z⟩) H nx (u.alloc (.cells (vs ++ rest).toArray t fz)):=by
 have hx:Ext ρ (ρ.bind id ⟨w.heap.size,0,(vs ++ rest).length,z⟩):=Rho.ext_bind hn
 have hnew:(u.alloc (.cells (vs ++ rest).toArray t fz)).heap[w.heap.size]?=some (.cells (vs ++ rest).toArray t fz):=by
  rw [← hus]; exact alloc_at _ _
 refine hu.bind (w':=u.alloc (.cells (vs ++ rest).toArray t fz)) (p:=⟨w.heap.size,0,(vs ++ rest).length,z⟩) hn hz hid hH rfl rfl rfl (by rw [alloc_size]; omega) (fun b hb=>Below.heap_alloc u _ b hb) (by rw [hus]) ?_
 refine ⟨_,t,fz,hnew,by simp,rfl,fun _=>⟨fun hS=>?_,by simpa using hf⟩,fun e=>(by cases e),fun i cv hi=>?_⟩
 ·exact absurd (h.slt _ hS) (Nat.lt_irrefl _)
 ·obtain ⟨v,g1,g2⟩:=hr.get _ _ (Row.at_new hi)
  refine ⟨v,?_,g2.mono hx⟩
  simp only [Nat.zero_add]
  have hl:=(List.getElem?_eq_some_iff.1 g1).1
  rw [List.getElem?_toArray,List.getElem?_append_left hl]; exact g1
theorem new_obj (h:WR Z S F w0 ρ H nx w) {id:Nat} (hn:ρ id=none) (hz:¬ Z id) (hid:id < nx) {ob:Ob} {x:Obj} (hH:∀ y,H.at id=some y → y=ob)
  (hR:∀ w',w'.heap[w.heap.size]?=some x → ob.R S (ρ.bind id ⟨w.heap.size,0,0,0⟩) ⟨w.heap.size,0,0,0⟩ w'):WR Z S F w0 (ρ.bind id ⟨w.heap.size,0,0,0⟩) H nx (w.alloc x) :=
 h.bind (w':=w.alloc x) (p:=⟨w.heap.size,0,0,0⟩) hn hz hid hH rfl rfl rfl (by rw [alloc_size]; omega) (fun b hb=>Below.heap_alloc w _ b hb) rfl (hR _ (alloc_at _ _))
theorem WR.notS (h:WR Z S F w0 ρ H nx w):¬ S w.heap.size:=fun hS=>absurd (h.slt _ hS) (Nat.lt_irrefl _)
theorem flat_R {cs:List CV} {vs:List Value} (h:CRs ρ cs vs):∀ n,CRs ρ (List.replicate n cs).flatten (List.replicate n vs).flatten:=by
 intro n
 induction n with
 | zero=>simp [CRs]
 | succ n ih=>rw [List.replicate_succ,List.replicate_succ,List.flatten_cons,List.flatten_cons]; exact h.app ih
theorem made_ok {nx':Nat} (h:WR Z S F w0 ρ σ.heap nx' w) (hv:HV ρ σ a o) {ob:Ob} {f:Nat → CV} (hp:made P σ o=some (ob,f)) {id:Nat} (hn:ρ id=none) (hz:¬ Z id) (hid:id < nx) {H:T Ob} (hW:WR Z S F w0 ρ H nx w) (hH:∀ x,H.at id=some x → x=ob) :
  MOk P Z S F w0 ρ H nx a w o id (f id):=by
 have cell0:∀ (cs:List CV) (vs:List Value),(vs ++ ([]:List Value))=vs:=fun _ vs=>List.append_nil vs
 unfold made at hp
 split at hp
 ·rename_i t ho
  split at hp
  ·rename_i z hzz
   cases hp
   obtain ⟨i,v,z1,z2,z3,z4,z5⟩:=zeroOf_ok hzz
   obtain ⟨vs,g1,g2,_⟩:=V.R.cells (z3 ρ) z4
   have hw:=new_cells (t:=t) (fz:=(0,0)) hW hn hz hid (rest:=[]) g2 hW rfl (.inl rfl) hH
   refine ⟨_,.pointer (some ⟨w.heap.size,0,none⟩),_,?_,⟨_,bind_same _ _ _,rfl⟩,hw⟩
   simp only [execOp,ho,Instr.alloc]
   simp [z5 w,newVar,newRow,g1]
  ·cases hp
 ·rename_i t x ho
  split at hp
  ·rename_i v hvv
   split at hp
   ·cases hp
   ·rename_i hs
    cases hp
    have hs:v.cells.all CV.solid=true:=by simpa using hs
    obtain ⟨vs,g1,g2,_⟩:=V.R.cells (hv.v (x:=x) (by simp [ho,Op.operands]) hvv) hs
    have hw:=new_cells (t:=t) (fz:=(0,0)) hW hn hz hid (rest:=[]) g2 hW rfl (.inl rfl) hH
    refine ⟨_,.pointer (some ⟨w.heap.size,0,none⟩),_,?_,⟨_,bind_same _ _ _,rfl⟩,hw⟩
    simp only [execOp,ho,Instr.box]
    simp [newVar,newRow,g1]
  ·cases hp
 ·rename_i t len ps ho
  split at hp
  ·rename_i e l hu hl
   split at hp
   ·rename_i z zv hsz hzv
    split at hp
    ·rename_i hc
     simp only [Bool.and_eq_true,Nat.ble_eq,Nat.beq_eq_true_eq] at hc
     split at hp
     ·rename_i cs hcs
      cases hp
      obtain ⟨i,v,z1,z2,z3,z4,z5⟩:=zeroOf_ok hzv
      obtain ⟨zs,hz1,hz2,_⟩:=V.R.cells (z3 ρ) z4
      have hzl:zs.length=z:=by rw [← CRs.length hz2]; simpa using hc.2
      obtain ⟨vs,hv1,hv2⟩:=fillC_ok _ l (parts_ok hv ps.toList (parts_mem (t:=t) (.inr ⟨len,ho⟩)) l hl) _ _ _ (flat_R hz2 len) hcs
      have hw:=new_cells (t:=e) (fz:=(0,0)) hW hn hz hid (rest:=[]) hv2 hW rfl (.inl rfl) hH
      refine ⟨_,.slice (some ⟨w.heap.size,0,none⟩) len len,_,?_,⟨_,bind_same _ _ _,rfl⟩,hw⟩
      have hrow:(Array.map (fun x=>zs[x % zs.length]?.getD default) (Array.range (len * z)))=((List.replicate len zs).flatten).toArray:=by
       apply Array.ext'
       rw [← hzl,← range_mod zs len]
       simp
      have hv1':Instr.fill (fun j=>some (j * z,z)) ((List.replicate len zs).flatten).toArray (List.map (fun x=>(x.fst,a.eval x.snd)) ps.toList)=some vs.toArray:=hv1
      simp only [execOp,ho,Instr.buildSlice]
      have hne:len * z=0 ∨ ¬ len * z=0:=Decidable.em _
      simp only [Sem.run_bind,run_underlying hu,Result.andThen_ok,Sx.run_sizeOf hsz]
      rw [if_neg (by omega)]
      rcases hne with h0 | h0
      ·have hfl:(List.replicate len zs).flatten=[]:=by
        apply List.eq_nil_of_length_eq_zero
        rw [List.length_flatten]; simp [hzl,h0]
       rw [hfl] at hv1'
       have he:Array.map (fun (_:Nat)=>(default:Value)) (Array.range 0)=#[]:=Array.ext' (by simp)
       simp [h0,he,hv1',newRow]
      ·simp [h0,z5 w,hz1]
       rw [hrow]
       simp [hv1',newRow]
     ·cases hp
    ·cases hp
   ·cases hp
  ·cases hp
 ·cases hp
 ·rename_i t ho
  cases hp
  have hw:=new_obj (x:=.map #[] 0) hW hn hz hid hH (fun w' hw'=>⟨hW.notS,#[],hw',trivial⟩)
  refine ⟨_,.map (some w.heap.size),_,?_,⟨_,bind_same _ _ _,rfl⟩,hw⟩
  simp only [execOp,ho,Instr.makeMap]
  simp [newObj,Sem.run]
 ·rename_i t hx ho
  split at hp
  ·rename_i k1 e1 n hmt hn'
   cases hp
   obtain ⟨k,hk⟩:=hv.int (x:=hx) (by simp [ho,Op.operands]) hn'
   have hw:=new_obj (x:=.map #[] 0) hW hn hz hid hH (fun w' hw'=>⟨hW.notS,#[],hw',trivial⟩)
   refine ⟨_,.map (some w.heap.size),_,?_,⟨_,bind_same _ _ _,rfl⟩,hw⟩
   simp only [execOp,ho,Instr.makeMap]
   simp [run_underlying hmt,hk,asInt,asIntOf]
  ·cases hp
 ·rename_i t l c ho
  split at hp
  ·rename_i e n m hu hl hc
   obtain ⟨kl,hkl⟩:=hv.nat (x:=l) (by simp [ho,Op.operands]) hl
   obtain ⟨kc,hkc⟩:=hv.nat (x:=c) (by simp [ho,Op.operands]) hc
   split at hp
   ·rename_i z zv hsz hzv
    split at hp
    ·rename_i hcd
     simp only [Bool.and_eq_true,Nat.ble_eq,Nat.beq_eq_true_eq] at hcd
     obtain ⟨⟨⟨h1,h2⟩,h3⟩,h4⟩:=hcd
     cases hp
     obtain ⟨i,v,z1,z2,z3,z4,z5⟩:=zeroOf_ok hzv
     obtain ⟨zs,hz1,hz2,_⟩:=V.R.cells (z3 ρ) z4
     have hzl:zs.length=z:=by rw [← CRs.length hz2]; simpa using h3
     have hiz:i.size=z:=by simpa [szOf,z1] using hsz
     have hib:i.bytes ≤ 65536:=by simpa [bytesSz,z1] using h4
     have hrow:madeCells v.cells (m * i.size)=((List.replicate m zs).flatten).toArray:=by
      rw [hz1,hiz,← hzl]
      apply Array.ext'
      rw [← range_mod zs m]
      simp [madeCells]
     have hw:=new_cells (t:=e) (fz:=(0,0)) hW hn hz hid (rest:=[]) (flat_R hz2 m) hW rfl (.inl rfl) hH
     refine ⟨_,.slice (some ⟨w.heap.size,0,none⟩) n m,_,?_,⟨_,bind_same _ _ _,rfl⟩,hw⟩
     have hb:(i.bytes:Int) * (m:Int) ≤ 281474976710656:=by
      have:i.bytes * m ≤ 65536 * 65536:=Nat.mul_le_mul hib h2
      have h5:((i.bytes * m:Nat):Int) ≤ 281474976710656:=by omega
      rwa [Int.natCast_mul] at h5
     have hr:=run_make (P:=P) w t e i v hu z1 z2 kl kc n m (by omega) (by omega) hb (by omega)
     simp only [Int.toNat_natCast] at hr
     rw [hrow] at hr
     simp only [execOp,ho,hkl,hkc]
     simp [hr]
    ·cases hp
   ·cases hp
  ·cases hp
 ·rename_i t d x ho
  split at hp
  ·rename_i e l hs hd hx
   split at hp
   ·rename_i he
    cases hp
    obtain ⟨si,h1,h2⟩:=hv.c (x:=x) (by simp [ho,Op.operands]) hx
    subst h2
    have hcap:si.size ≤ grownCap w si.size 0 e:=by unfold grownCap Question.cut; exact Nat.le_add_right _ _
    have hb:bytesRow si (grownCap w si.size 0 e)=(((strOf si).map fun (n:Nat)=>Value.int .u8 (n:Int)) ++ List.replicate (grownCap w si.size 0 e - si.size) (Value.int .u8 0)).toArray:=by
     apply Array.ext'
     simp only [bytesRow,strOf,List.map_map,Array.toList_append,Array.toList_map,Array.toList_replicate]
     rfl
    have hsz:(((strOf si).map fun (n:Nat)=>Value.int .u8 (n:Int)) ++ List.replicate (grownCap w si.size 0 e - si.size) (Value.int .u8 0)).length=grownCap w si.size 0 e:=by
     simp [strOf]; omega
    have hr:=run_bytes_of_string (P:=P) w t d e si hs hd he
    rw [hb] at hr
    have hrel:CRs ρ ((strOf si).map fun (n:Nat)=>CV.int .u8 (n:Int)) ((strOf si).map fun (n:Nat)=>Value.int .u8 (n:Int)):=by
     generalize strOf si=l
     induction l with
     | nil=>trivial
     | cons x l ih=>exact ⟨rfl,ih⟩
    have hw:=new_cells (t:=e) (z:=1) (rest:=List.replicate (grownCap w si.size 0 e - si.size) (Value.int .u8 0)) (fz:=((((strOf si).map fun (n:Nat)=>Value.int .u8 (n:Int)) ++ List.replicate (grownCap w si.size 0 e - si.size) (Value.int .u8 0)).toArray.size,(((strOf si).map fun (n:Nat)=>Value.int .u8 (n:Int)) ++ List.replicate (grownCap w si.size 0 e - si.size) (Value.int .u8 0)).toArray.size + 1)) hW hn hz hid hrel hW.drew rfl (.inr (by simp)) hH
    have hlen:(strOf si).length=si.size:=by simp [strOf]
    refine ⟨_,.slice (some ⟨w.heap.size,0,none⟩) si.size (grownCap w si.size 0 e),_,?_,⟨_,⟨w.heap.size,0,none⟩,grownCap w si.size 0 e,bind_same _ _ _,by rw [hlen],by rw [hlen]; exact hcap,.inl ⟨rfl,?_⟩⟩,hw⟩
    ·simp only [execOp,ho,h1]
     simp only [Sem.run_bind,hr,Result.andThen_ok,Sem.run_pure]
    ·show 0 + 0 + grownCap w si.size 0 e * 1 ≤ List.length _
     rw [hsz]; simp
   ·cases hp
  ·cases hp
 ·rename_i t x ho
  split at hp
  ·rename_i l hu hx
   cases hp
   obtain ⟨si,h1,h2⟩:=hv.c (x:=x) (by simp [ho,Op.operands]) hx
   have hw:=new_obj (x:=.stringIter si 0) hW hn hz hid hH (fun w' hw'=>⟨hW.notS,rfl,si,hw',h2⟩)
   refine ⟨_,.pointer (some ⟨w.heap.size,0,none⟩),_,?_,⟨_,bind_same _ _ _,rfl⟩,hw⟩
   simp only [execOp,ho,h1]
   simp [run_range_string w t si hu]
   rfl
  ·rename_i kt et hu hx
   cases hp
   have h1:a.eval x=.map none:=hv.c (x:=x) (by simp [ho,Op.operands]) hx
   have hw:=new_obj (x:=.mapIter none 0 #[] 0) hW hn hz hid hH (fun w' hw'=>⟨hW.notS,rfl,none,hw',rfl⟩)
   refine ⟨_,.pointer (some ⟨w.heap.size,0,none⟩),_,?_,⟨_,bind_same _ _ _,rfl⟩,hw⟩
   simp only [execOp,ho,h1]
   simp [run_range_nilMap w t kt et hu]
  ·rename_i kt et m hu hx
   obtain ⟨q,h1,h2⟩:=hv.c (x:=x) (by simp [ho,Op.operands]) hx
   split at hp
   ·rename_i es clock hob
    cases hp
    obtain ⟨g1,ar,g2,g3⟩:=h.ob m q _ h1 hob
    have hw:=new_obj (x:=.mapIter (some q.b) clock #[] clock) hW hn hz hid hH (fun w' hw'=>⟨hW.notS,rfl,some q.b,hw',q,Rho.ext_bind hn _ _ h1,rfl⟩)
    refine ⟨_,.pointer (some ⟨w.heap.size,0,none⟩),_,?_,⟨_,bind_same _ _ _,rfl⟩,hw⟩
    simp only [execOp,ho,h2]
    simp [run_range_map w t kt et q.b ar clock hu g2]
   ·cases hp
  ·cases hp
 ·cases hp
end
def NextV:Next → Value → Prop
 | .value v,u=>u=v
 | .skip,u=>u=undef
 | _,_=>False
def BOk (P:Program) (Z S:Nat → Prop) (F:Nat → Option Obj) (w0:World) (ρ:Rho) (σ':St) (s:SV) (a:Act) (w:World) (o:Oper):Prop :=
 ∃ ρ' n v w',(execOp a.eval o).run P w=.ok n w' ∧ NextV n v ∧ Ext ρ ρ' ∧ WR Z S F w0 ρ' σ'.heap σ'.next w' ∧ s.R ρ' v
section
variable {P:Program} {Z S:Nat → Prop} {F:Nat → Option Obj} {w0 w:World} {ρ:Rho} {σ σ':St} {a:Act} {o:Oper} {s:SV}
theorem src_ok (hw:WR Z S F w0 ρ σ.heap σ.next w) (hv:HV ρ σ a o) {tx:TypeId} {z:Nat} {x:Operand} (hx:x ∈ o.op.operands.toList) {m:Nat} {news:List CV} (h:srcOf P σ tx z x=some (m,news)) (hs:news.all CV.solid=true) :
  ∃ vs:List Value,Src P z tx (a.eval x) m vs w ∧ CRs ρ news vs:=by
 unfold srcOf at h
 split at h
 ·rename_i l hu hc
  split at h
  ·rename_i hz
   have hz:z=1:=by simpa using hz
   subst hz
   cases h
   obtain ⟨si,h1,h2⟩:=hv.c hx hc
   subst h2
   rw [h1,show (strOf si).length=si.size by simp [strOf]]
   refine ⟨_,Src.ofString w hu si,?_⟩
   have:byteCells si=(strOf si).map fun (n:Nat)=>Value.int .u8 (n:Int):=by simp only [byteCells,strOf,List.map_map]; rfl
   rw [this]
   clear hs this
   generalize strOf si=l
   induction l with
   | nil=>trivial
   | cons x l ih=>exact ⟨rfl,ih⟩
  ·cases h
 ·rename_i e hu hc
  cases h
  have h1:a.eval x=.slice none 0 0:=hv.c hx hc
  rw [h1]
  exact ⟨[],Src.ofNil w hu 0,trivial⟩
 ·rename_i e id off len cap hu hc
  have hc':=hv.c hx hc
  split at h
  ·rename_i cs own zz hob
   cases hg:cs.gets off (len * z) with
   | none=>rw [hg] at h; cases h
   | some l =>
    rw [hg] at h; cases h
    have key:∃ (ad:Addr) (c:Nat) (vs:List Value),a.eval x=.slice (some ad) m c ∧ vs.length=m * z ∧ CRs ρ news vs ∧ ∀ (j:Nat) u,vs[j]?=some u → w.cell? (ad.add j)=some u:=by
     cases cap with
     | some cap =>
      obtain ⟨p,h1,h2⟩:=hc'
      obtain ⟨vs,k1,k2,k3⟩:=hw.reads h1 hob hg
      exact ⟨_,_,vs,h2,k1,k2,k3⟩
     | none =>
      obtain ⟨p,ad,c,h1,h2,h3,h4⟩:=hc'
      rcases h4 with ⟨rfl,h5⟩ | ⟨rfl,rfl⟩
      ·obtain ⟨vs,k1,k2,k3⟩:=hw.reads h1 hob hg
       exact ⟨_,_,vs,h2,k1,k2,k3⟩
      ·have:news=[]:=by
        have:=(Row.gets_ok _ _ _ _ hg).1
        simpa using this
       subst this
       exact ⟨ad,0,[],h2,by simp,trivial,fun j u hu=>by simp at hu⟩
    obtain ⟨ad,c,vs,k1,k2,k3,k4⟩:=key
    rw [k1]
    exact ⟨vs,Src.ofSlice w hu ad m c vs k2 k4 (k3.one hs),k3⟩
  ·cases h
 ·cases h
theorem map_append {b:Builtin} {c:Call} (ho:o.op=.call c) (hc:c.callee=.builtin b) {r:Value} {w':World} (hr:(builtin b c.argTypes o.type (c.args.map fun | .const _=>true | _=>false) (c.args.map a.eval)).run P w=.ok (.value r) w') :
  (execOp a.eval o).run P w=.ok (.value r) w':=by
 simp only [execOp,ho,resolve,hc,Sem.run_bind,Sem.run_pure,Result.andThen_ok,invoke]
 exact hr
theorem WR.take {H:T Ob} {nx:Nat} (h:WR Z S F w0 ρ H nx w) {id:Nat} {p:Pl} (hp:ρ id=some p) {cs:Row} {z:Nat} (ho:H.at id=some (.cells cs true z))
  {w':World} (hos:w'.os=w.os) (ht:w'.tape=w.tape) (hout:w'.output=w.output) (hs:w'.heap.size=w.heap.size) (hh:∀ b,b ≠ p.b → w'.heap[b]?=w.heap[b]?)
  {q:Pl} {o':Ob} (hq:q.b=p.b) (how:o'.own=true) (hR:o'.R S (ρ.bind nx q) q w'):WR Z S F w0 (ρ.bind nx q) ((H.put id .dead).put nx o') (nx + 1) w':=by
 have hn:ρ nx=none:=by
  cases hq:ρ nx with
  | none=>rfl
  | some q=>exact absurd (h.lt nx q hq).1 (Nat.lt_irrefl _)
 have hx:Ext ρ (ρ.bind nx q):=Rho.ext_bind hn
 obtain ⟨c,t,fz,h1,h2,h2',h3,h4,h5⟩:=h.ob id p _ hp ho
 have hS:=(h3 rfl).1
 have cases3:∀ {i:Nat} {r:Pl} {x:Ob},ρ.bind nx q i=some r → ((H.put id .dead).put nx o').at i=some x → (i=nx ∧ r=q ∧ x=o') ∨ (i ≠ nx ∧ ρ i=some r ∧ x=.dead) ∨ (i ≠ nx ∧ i ≠ id ∧ ρ i=some r ∧ H.at i=some x):=by
  intro i r x hr hxx
  by_cases hi:i=nx
  ·subst hi; rw [bind_same] at hr; cases hr; exact .inl ⟨rfl,rfl,T.at_eq hxx⟩
  ·rw [bind_ne ρ q hi] at hr
   rw [T.at_ne _ _ (Ne.symm hi)] at hxx
   by_cases hi2:i=id
   ·subst hi2; exact .inr (.inl ⟨hi,hr,T.at_eq hxx⟩)
   ·rw [T.at_ne _ _ (Ne.symm hi2)] at hxx; exact .inr (.inr ⟨hi,hi2,hr,hxx⟩)
 refine ⟨hos.trans h.os,ht.trans h.tape,hout.trans h.output,by rw [hs]; exact h.size,fun b hb=>?_,fun b hb=>by rw [hs]; exact h.slt b hb,fun i r hr=>?_,fun i r x hr hxx=>?_,fun i j r r' x y hr hr' hxx hyy hox hoy hne=>?_,fun i hi=>⟨by rw [bind_ne ρ q (fun e=>absurd (h.free _ hi).2 (by rw [e]; exact Nat.lt_irrefl _))]; exact (h.free i hi).1,Nat.lt_succ_of_lt (h.free i hi).2⟩⟩
 ·rw [hh b (fun e=>hS (e ▸ hb))]; exact h.keep b hb
 ·by_cases hi:i=nx
  ·subst hi; rw [bind_same] at hr; cases hr; exact ⟨Nat.lt_succ_self _,by rw [hq,hs]; exact (h.lt id p hp).2⟩
  ·rw [bind_ne ρ q hi] at hr; exact ⟨Nat.lt_succ_of_lt (h.lt i r hr).1,by rw [hs]; exact (h.lt i r hr).2⟩
 ·rcases cases3 hr hxx with ⟨rfl,rfl,rfl⟩ | ⟨hi,_,rfl⟩ | ⟨hi,hi2,hr2,hx2⟩
  ·exact hR
  ·trivial
  ·by_cases hox:x.own=true
   ·exact (h.ob i r x hr2 hx2).mono hx (hh _ (h.inj i id r p x _ hr2 hp hx2 ho hox rfl hi2))
   ·cases x with
    | dead=>trivial
    | cells cs' own' z' =>
     have k1:=h.ob i r _ hr2 hx2
     have hSb:S r.b:=by
      obtain ⟨_,_,_,_,_,_,_,k,_⟩:=k1
      simp [Ob.own] at hox
      exact k hox
     exact k1.mono hx (hh _ (fun e=>hS (e ▸ hSb)))
    | map _ _=>exact absurd rfl hox
    | miter _ _ _ _=>exact absurd rfl hox
    | siter _ _=>exact absurd rfl hox
 ·rcases cases3 hr hxx with ⟨rfl,rfl,rfl⟩ | ⟨hi,_,rfl⟩ | ⟨hi,hi2,hr2,hx2⟩
  ·rcases cases3 hr' hyy with ⟨rfl,rfl,rfl⟩ | ⟨hj,_,rfl⟩ | ⟨hj,hj2,hr3,hx3⟩
   ·exact absurd rfl hne
   ·cases hoy
   ·rw [hq]; exact h.inj id j p r' _ y hp hr3 ho hx3 rfl hoy (Ne.symm hj2)
  ·cases hox
  ·rcases cases3 hr' hyy with ⟨rfl,rfl,rfl⟩ | ⟨hj,_,rfl⟩ | ⟨hj,hj2,hr3,hx3⟩
   ·rw [hq]; exact h.inj i id r p x _ hr2 hp hx2 ho hox rfl hi2
   ·cases hoy
   ·exact h.inj i j r r' x y hr2 hr3 hx2 hx3 hox hoy hne
theorem grow_new (hw:WR Z S F w0 ρ σ.heap σ.next w) {r:Row} {z n:Nat} {vs rest:List Value} {t:TypeId} (hr:∀ i cv,r.at i=some cv → ∃ v,(vs ++ rest)[i]?=some v ∧ cv.R ρ v) {c:Nat} (hc:n ≤ c) (hl:c * z ≤ (vs ++ rest).length) :
  ∃ ρ',Ext ρ ρ' ∧ WR Z S F w0 ρ' (σ.new (.cells r true z)).heap (σ.new (.cells r true z)).next (w.drew.alloc (.cells (vs ++ rest).toArray t (0,0))) ∧ (CV.sl σ.next 0 n none).R ρ' (.slice (some ⟨w.heap.size,0,none⟩) n c):=by
 obtain ⟨h1,hn⟩:=hw.drew.place (.cells r true z)
 have hx:Ext ρ (ρ.bind σ.next ⟨w.heap.size,0,(vs ++ rest).length,z⟩):=Rho.ext_bind hn
 have hnew:(w.drew.alloc (.cells (vs ++ rest).toArray t (0,0))).heap[w.heap.size]?=some (.cells (vs ++ rest).toArray t (0,0)):=alloc_at w.drew _
 refine ⟨_,hx,h1.bind (w':=w.drew.alloc (.cells (vs ++ rest).toArray t (0,0))) (p:=⟨w.heap.size,0,(vs ++ rest).length,z⟩) hn (fun hz=>absurd (hw.free _ hz).2 (Nat.lt_irrefl _)) (Nat.lt_succ_self _) (fun x hx=>T.at_eq hx) rfl rfl rfl (by rw [alloc_size]; omega) (fun b hb=>Below.heap_alloc w.drew _ b hb) rfl ?_,
  _,⟨w.heap.size,0,none⟩,c,bind_same _ _ _,rfl,hc,.inl ⟨rfl,by show 0 + 0 + c * z ≤ (vs ++ rest).length; omega⟩⟩
 refine ⟨_,t,(0,0),hnew,by simp,rfl,fun _=>⟨hw.notS,.inl rfl⟩,fun e=>(by cases e),fun i cv hi=>?_⟩
 obtain ⟨v,g1,g2⟩:=hr i cv hi
 exact ⟨v,by simp only [Nat.zero_add]; rw [List.getElem?_toArray]; exact g1,g2.mono hx⟩
theorem zeroCells_len (zs:Array Value) (n z:Nat) (h:zs.size=z):(Builtin.zeroCells zs n).toList.length=n * z:=by simp [Builtin.zeroCells,h]
theorem app_ok (hw:WR Z S F w0 ρ σ.heap σ.next w) (hv:HV ρ σ a o) {c:Call} (ho:o.op=.call c) (hc:c.callee=.builtin .append) {t tx:TypeId} {sl x:Operand} (ht:c.argTypes.toList=[t,tx]) (hx:c.args.toList=[sl,x]) (hp:appB P σ t tx sl x=.st σ' s):BOk P Z S F w0 ρ σ' s a w o:=by
 have e1:c.argTypes=#[t,tx]:=by apply Array.ext'; simpa using ht
 have e2:c.args=#[sl,x]:=by apply Array.ext'; simpa using hx
 have m1:sl ∈ o.op.operands.toList:=by rw [ho]; simp [Op.operands,Call.operands,e2]
 have m2:x ∈ o.op.operands.toList:=by rw [ho]; simp [Op.operands,Call.operands,e2]
 have fin:∀ {ty:TypeId} {r:Value} {w':World},(Builtin.append_ #[t,tx] o.type #[a.eval sl,a.eval x]).run P w=.ok r w' → (execOp a.eval o).run P w=.ok (.value r) w':=by
  intro ty r w' hr
  refine map_append ho hc ?_
  rw [e1,e2]
  simp [builtin,hr]
 unfold appB at hp
 split at hp
 ·rename_i e cv hu hcs
  split at hp
  ·rename_i z bs zv hz hbs hzv
   split at hp
   ·rename_i m news hsrc
    split at hp
    ·cases hp
    ·rename_i hb
     simp only [Bool.not_eq_true,Bool.not_eq_false',Bool.and_eq_true,Nat.blt_eq,Nat.beq_eq_true_eq] at hb
     obtain ⟨⟨⟨hb1,hb2⟩,hb3⟩,hb4⟩:=hb
     obtain ⟨i,zl,z1,z2,z3,z4,z5⟩:=zeroOf_ok hzv
     obtain ⟨zs,hz1,hz2,_⟩:=V.R.cells (z3 ρ) z4
     have hiz:i.size=z:=by simpa [szOf,z1] using hz
     have hib:i.bytes=bs:=by simpa [bytesSz,z1] using hbs
     have hzs:zl.cells.size=z:=by rw [hz1]; simp; rw [← CRs.length hz2]; simpa using hb3
     obtain ⟨vs,hS,hR⟩:=src_ok hw hv m2 hsrc hb2
     have hnl:=hS.newsLen
     have hcv:=hv.c m1 hcs
     have grow:∀ {base:Option Addr} {n cap:Nat} {olds:List Value} {r:Row},a.eval sl=.slice base n cap → cap < n + m → n + m < 65536 → olds.length=n * z → ((Builtin.firstCells i.size n (.slice base n cap)).run P w.drew=.ok olds.toArray w.drew) →
       (∀ j cv,r.at j=some cv → ∃ v,(olds ++ vs)[j]?=some v ∧ cv.R ρ v) → ∀ {σ1:St},σ1.next=σ.next → WR Z S F w0 ρ σ1.heap σ.next w → BOk P Z S F w0 ρ (σ1.new (.cells r true z)) (.vl (.one (.sl σ.next 0 (n + m) none))) a w o:=by
      intro base n cap olds r hev hgr hlt hol hfc hr σ1 hnx hw1
      have hS':Src P i.size tx (a.eval x) m vs w:=by rw [hiz]; exact hS
      have hrun:=run_append_grow_src (P:=P) w t tx o.type e i zl hu z1 z2 base n cap olds hfc (a.eval x) m vs hS' hgr (by omega) (growslice_fits hgr (by
       have:(n + m) * i.bytes ≤ 65536 * 65536:=Nat.mul_le_mul (by omega) (by omega)
       omega))
      have hcap:n + m ≤ grownCap w (n + m) cap e:=by unfold grownCap Question.cut; exact Nat.le_add_right _ _
      have hrow:((olds ++ vs).toArray ++ Builtin.zeroCells zl.cells (grownCap w (n + m) cap e - (n + m)))=((olds ++ vs) ++ (Builtin.zeroCells zl.cells (grownCap w (n + m) cap e - (n + m))).toList).toArray:=by
       apply Array.ext'; simp
      rw [hrow] at hrun
      have hw1':WR Z S F w0 ρ σ1.heap σ1.next w:=by rw [hnx]; exact hw1
      obtain ⟨ρ',g1,g2,g3⟩:=grow_new (σ:=σ1) (t:=e) hw1' (r:=r) (z:=z) (n:=n + m) (vs:=olds ++ vs) (rest:=(Builtin.zeroCells zl.cells (grownCap w (n + m) cap e - (n + m))).toList) (fun j cv hj=>by
       obtain ⟨v,k1,k2⟩:=hr j cv hj
       exact ⟨v,by rw [List.getElem?_append_left (List.getElem?_eq_some_iff.1 k1).1]; exact k1,k2⟩) hcap (by
       rw [List.length_append,List.length_append,hol,hnl,zeroCells_len _ _ _ hzs,← Nat.add_mul,← Nat.add_mul]
       exact Nat.mul_le_mul_right _ (by omega))
      refine ⟨ρ',_,_,_,fin (ty:=0) (by rw [hev]; exact hrun),rfl,g1,g2,?_⟩
      rw [hnx] at g3; exact g3
     have nothing:∀ {base:Option Addr} {n cap:Nat},a.eval sl=.slice base n cap → n ≤ cap → m=0 → BOk P Z S F w0 ρ σ (.vl (.one cv)) a w o:=by
      intro base n cap hev hle hm
      subst hm
      have hvs:vs=[]:=by simpa using hnl
      subst hvs
      have hS':Src P i.size tx (a.eval x) 0 [] w:=by rw [hiz]; exact hS
      have hrun:=run_append_nothing (P:=P) w t tx o.type e i hu z1 base n cap hle (a.eval x) hS'
      exact ⟨ρ,_,_,w,fin (ty:=0) (by rw [hev]; exact hrun),rfl,Ext.refl ρ,hw,by rw [← hev]; exact hcv⟩
     split at hp
     ·have hev:a.eval sl=.slice none 0 0:=hcv
      split at hp
      ·rename_i hm
       cases hp
       exact nothing hev (Nat.le_refl 0) (by simpa using hm)
      ·rename_i hm
       have hm:¬ m=0:=by simpa using hm
       split at hp
       ·rename_i hlt
        cases hp
        have:=grow (olds:=[]) (r:=Row.new news) hev (by omega) (by simp at hlt; omega) (by simp) (run_firstCells_none w.drew i.size 0 0 0) (fun j cv hj=>by
         obtain ⟨v,k1,k2⟩:=hR.get _ _ (Row.at_new hj)
         exact ⟨v,by simpa using k1,k2⟩) rfl hw
        simpa using this
       ·cases hp
     ·rename_i id off n cap
      obtain ⟨p,h1,h2⟩:=hcv
      split at hp
      ·cases hp
      ·rename_i hle
       simp only [Bool.not_eq_true,Bool.not_eq_false',Bool.and_eq_true,Nat.ble_eq,Nat.blt_eq] at hle
       split at hp
       ·rename_i hroom
        have hroom:n + m ≤ cap:=by simpa using hroom
        split at hp
        ·rename_i cs zz hob
         split at hp
         ·rename_i hm
          cases hp
          exact nothing h2 hle.1 (by simpa using hm)
         ·rename_i hm
          have hm:¬ m=0:=by simpa using hm
          split at hp
          ·rename_i hg
           cases hp
           obtain ⟨l,hg⟩:=Option.isSome_iff_exists.1 hg
           have hroom2:p.o + (off + n * z) + news.length ≤ p.n:=by
            rw [CRs.length hR,hnl]
            exact gets_room hg hw h1 hob (Nat.mul_pos (by omega) hb4)
           have hst:=hw.store h1 hob hR hroom2
           obtain ⟨r1,r2⟩:=hw.room h1 hob (off:=off + n * z) (n:=vs.length) (by rw [← CRs.length hR]; exact hroom2)
           have hS':Src P i.size tx (a.eval x) m vs w:=by rw [hiz]; exact hS
           have hrun:=run_append_room_src (P:=P) w t tx o.type e i hu z1 p.b (p.o + off) n cap (a.eval x) m vs hS' hroom (fun j hj=>by rw [hiz,Nat.add_assoc p.o]; exact r1 j hj) (fun j hj=>by rw [hiz,Nat.add_assoc p.o]; exact r2 j hj)
           refine ⟨ρ,_,_,_,fin (ty:=0) (by rw [h2]; exact hrun),rfl,Ext.refl ρ,?_,p,h1,rfl⟩
           rw [hiz,Nat.add_assoc p.o]
           exact hst
          ·cases hp
        ·cases hp
       ·rename_i hroom
        have hroom:¬ n + m ≤ cap:=by simpa using hroom
        split at hp
        ·rename_i cs own zz hob
         split at hp
         ·rename_i olds hg
          split at hp
          ·rename_i hsol
           cases hp
           obtain ⟨us,k1,k2,k3⟩:=hw.reads h1 hob hg
           refine grow (olds:=us) (r:=Row.new (olds ++ news)) h2 (by omega) hle.2 k1 ?_ (fun j cv hj=>?_) rfl hw
           ·exact run_firstCells_some w.drew i.size n _ n cap us (by rw [hiz]; exact k1) (by simpa using k3)
           ·exact (k2.app hR).get _ _ (Row.at_new hj)
          ·cases hp
         ·cases hp
        ·cases hp
     ·rename_i id off n
      obtain ⟨p,ad,cap,h1,h2,h3,h4⟩:=hcv
      split at hp
      ·cases hp
      ·rename_i hlt
       have hlt:n + m < 65536:=by simpa using hlt
       split at hp
       ·rename_i hm
        cases hp
        exact nothing h2 h3 (by simpa using hm)
       ·rename_i hm
        have hm:¬ m=0:=by simpa using hm
        split at hp
        ·rename_i cs zz hob
         split at hp
         ·cases hp
         ·rename_i hzz
          have hzz:zz=z:=by simpa using hzz
          subst hzz
          obtain ⟨c',t',fz',q1,q2,q3,q4,q5,q6⟩:=hw.ob id p _ h1 hob
          have both:∀ {r:Row},(∀ j cv,r.at j=some cv → (j < n * zz ∧ cs.at (off + j)=some cv) ∨ (n * zz ≤ j ∧ news[j - n * zz]?=some cv)) →
            BOk P Z S F w0 ρ ((σ.upd id .dead).new (.cells r true zz)) (.vl (.one (.sl σ.next 0 (n + m) none))) a w o:=by
           intro r hr
           have hS':Src P i.size tx (a.eval x) m vs w:=by rw [hiz]; exact hS
           by_cases hroom:n + m ≤ cap
           ·
            rcases h4 with ⟨rfl,hfit⟩ | ⟨h5,h6⟩
            ·rw [q3] at hfit
             have hle2:(n + m) * zz ≤ cap * zz:=Nat.mul_le_mul_right _ hroom
             have hroom2:p.o + (off + n * zz) + vs.length ≤ p.n:=by rw [hnl]; rw [Nat.add_mul] at hle2; omega
             obtain ⟨r1,r2⟩:=hw.room h1 hob (off:=off + n * zz) (n:=vs.length) hroom2
             have hrun:=run_append_room_src (P:=P) w t tx o.type e i hu z1 p.b (p.o + off) n cap (a.eval x) m vs hS' hroom (fun j hj=>by rw [hiz,Nat.add_assoc p.o]; exact r1 j hj) (fun j hj=>by rw [hiz,Nat.add_assoc p.o]; exact r2 j hj)
             rw [hiz] at hrun
             obtain ⟨g1,g2,g3,g4,g5⟩:=setCells_same vs w p.b (p.o + off + n * zz)
             have hn0:ρ σ.next=none:=by
              cases hq:ρ σ.next with
              | none=>rfl
              | some q=>exact absurd (hw.lt _ q hq).1 (Nat.lt_irrefl _)
             have hx:Ext ρ (ρ.bind σ.next ⟨p.b,p.o + off,p.n,zz⟩):=Rho.ext_bind hn0
             refine ⟨_,_,_,_,fin (ty:=0) (by rw [h2]; exact hrun),rfl,hx,hw.take h1 hob g1 g2 g3 g4 g5 (q:=⟨p.b,p.o + off,p.n,zz⟩) (o':=.cells r true zz) rfl rfl ?_,_,_,cap,bind_same _ _ _,rfl,hroom,.inl ⟨rfl,?_⟩⟩
             ·refine ⟨_,t',fz',setCells_heap vs q1,by rw [putA_size]; exact q2,rfl,fun _=>⟨(q4 rfl).1,by rw [putA_size]; exact (q4 rfl).2⟩,fun e=>(by cases e),fun j cv hj=>?_⟩
              rw [putA_get _ _ _ _ (by omega)]
              show ∃ v,(if p.o + off + n * zz ≤ p.o + off + j ∧ p.o + off + j < p.o + off + n * zz + vs.length then vs[p.o + off + j - (p.o + off + n * zz)]? else c'[p.o + off + j]?)=some v ∧ _
              rcases hr j cv hj with ⟨k1,k2⟩ | ⟨k1,k2⟩
              ·rw [if_neg (by omega)]
               obtain ⟨v,e1,e2⟩:=q6 _ _ k2
               exact ⟨v,by rw [Nat.add_assoc]; exact e1,e2.mono hx⟩
              ·obtain ⟨v,e1,e2⟩:=hR.get _ _ k2
               have hlt2:=(List.getElem?_eq_some_iff.1 e1).1
               rw [if_pos (by omega)]
               exact ⟨v,by rw [show p.o + off + j - (p.o + off + n * zz)=j - n * zz by omega]; exact e1,e2.mono hx⟩
             ·show p.o + off + 0 + cap * zz ≤ p.n
              omega
            ·omega
           ·
            have olds:∃ olds:List Value,olds.length=n * zz ∧ (∀ j u,olds[j]?=some u → w.cell? (ad.add j)=some u) ∧ ∀ j cv,j < n * zz → cs.at (off + j)=some cv → ∃ v,olds[j]?=some v ∧ cv.R ρ v:=by
             rcases h4 with ⟨rfl,hfit⟩ | ⟨h5,h6⟩
             ·rw [q3] at hfit
              have hle2:n * zz ≤ cap * zz:=Nat.mul_le_mul_right _ h3
              refine ⟨(c'.toList.drop (p.o + off)).take (n * zz),by simp; omega,fun j u hj=>?_,fun j cv hj hcv=>?_⟩
              ·rw [List.getElem?_take] at hj
               split at hj
               ·rw [List.getElem?_drop] at hj
                rw [Pl.at_add,Pl.at,cell_cells q1,← Nat.add_assoc]; simpa using hj
               ·cases hj
              ·obtain ⟨v,e1,e2⟩:=q6 _ _ hcv
               exact ⟨v,by rw [List.getElem?_take,if_pos hj,List.getElem?_drop]; simpa [Nat.add_assoc] using e1,e2⟩
             ·subst h5
              exact ⟨[],by simp,fun j u hj=>by simp at hj,fun j cv hj=>by omega⟩
            obtain ⟨olds,o1,o2,o3⟩:=olds
            refine grow (σ1:=σ.upd id .dead) (olds:=olds) (r:=r) h2 (by omega) hlt o1 ?_ (fun j cv hj=>?_) rfl (hw.kill id)
            ·exact run_firstCells_some w.drew i.size n _ n cap olds (by rw [hiz]; exact o1) (by simpa using o2)
            ·rcases hr j cv hj with ⟨k1,k2⟩ | ⟨k1,k2⟩
             ·obtain ⟨v,e1,e2⟩:=o3 j cv k1 k2
              exact ⟨v,by rw [List.getElem?_append_left (by omega)]; exact e1,e2⟩
             ·obtain ⟨v,e1,e2⟩:=hR.get _ _ k2
              exact ⟨v,by rw [List.getElem?_append_right (by omega),o1]; exact e1,e2⟩
          split at hp
          ·rename_i hoff
           have hoff:off=0:=by simpa using hoff
           subst hoff
           cases hp
           refine both fun j cv hj=>?_
           rcases Row.at_puts _ _ _ _ _ hj with ⟨k1,k2⟩ | ⟨k1,_⟩
           ·exact .inr ⟨k1,k2⟩
           ·obtain ⟨e1,e2⟩:=Row.at_cut k1
            exact .inl ⟨e1,by rw [Nat.zero_add]; exact e2⟩
          ·split at hp
           ·rename_i olds hg
            cases hp
            obtain ⟨e1,e2⟩:=Row.gets_ok _ _ _ _ hg
            refine both fun j cv hj=>?_
            have hj:=Row.at_new hj
            by_cases hlt3:j < n * zz
            ·rw [List.getElem?_append_left (by omega)] at hj
             exact .inl ⟨hlt3,e2 j cv hj⟩
            ·rw [List.getElem?_append_right (by omega),e1] at hj
             exact .inr ⟨by omega,hj⟩
           ·cases hp
        ·cases hp
     ·cases hp
   ·cases hp
  ·cases hp
 ·cases hp
end
section
variable {P:Program} {Z S:Nat → Prop} {F:Nat → Option Obj} {w0 w:World} {ρ:Rho} {σ σ':St} {a:Act} {o:Oper} {s:SV}
theorem store_ok (hw:WR Z S F w0 ρ σ.heap σ.next w) (hv:HV ρ σ a o) {t:TypeId} {ad x:Operand} (ho:o.op=.store t ad x) (hp:big P σ o=.st σ' s):BOk P Z S F w0 ρ σ' s a w o:=by
 unfold big at hp; rw [ho] at hp; simp only at hp
 split at hp
 ·rename_i id off v n hc hx hn
  obtain ⟨p,h1,h2⟩:=hv.c (x:=ad) (by simp [ho,Op.operands]) hc
  split at hp
  ·rename_i cs zz hob
   split at hp
   ·rename_i hb
    simp only [Bool.and_eq_true] at hb
    obtain ⟨⟨⟨hb1,hb2⟩,hb3⟩,hb4⟩:=hb
    have hb1:=Nat.eq_of_beq_eq_true hb1
    have hb4:0 < n:=by simpa using hb4
    cases hp
    obtain ⟨vs,g1,g2,g3⟩:=V.R.cells (hv.v (x:=x) (by simp [ho,Op.operands]) hx) hb2
    have hl:=CRs.length g2
    obtain ⟨l,hg⟩:=Option.isSome_iff_exists.1 hb3
    have hroom:=gets_room hg hw h1 hob hb4
    have hst:=hw.store h1 hob (off:=off) g2 (by rw [hb1]; exact hroom)
    obtain ⟨r1,r2⟩:=hw.room h1 hob hroom
    have hvl:vs.length=n:=by omega
    have hrun:=run_storeCells_cells (P:=P) p.b (p.o + off) vs 0 w (by simpa [hvl] using r1) (by simpa [hvl] using r2) g3
    simp only [Nat.add_zero] at hrun
    refine ⟨ρ,.skip,undef,_,?_,rfl,Ext.refl ρ,hst,⟨[],rfl,trivial⟩⟩
    simp only [execOp,ho,h2,Instr.storeAt,Instr.sureAddr]
    simp only [Sem.run_bind,Sem.run_pure,Result.andThen_ok,storeVar,g1,Sx.run_sizeOf hn]
    rw [if_neg (by simp; omega)]
    simp only [Sem.run_pure,Result.andThen_ok,Pl.at]
    rw [hrun]
    rfl
   ·cases hp
  ·cases hp
 ·cases hp
theorem convB_ok (hw:WR Z S F w0 ρ σ.heap σ.next w) (hv:HV ρ σ a o) {t d:TypeId} {x:Operand} (ho:o.op=.convert t d x) (hp:big P σ o=.st σ' s):BOk P Z S F w0 ρ σ' s a w o:=by
 unfold big at hp; rw [ho] at hp; simp only at hp
 split at hp
 ·rename_i e0 e id off len cap ht hd hc
  obtain ⟨p,h1,h2⟩:=hv.c (x:=x) (by simp [ho,Op.operands]) hc
  split at hp
  ·rename_i cs z hob
   split at hp
   ·rename_i hb
    simp only [Bool.and_eq_true] at hb
    obtain ⟨hb1,hb2⟩:=hb
    have hb1:=Nat.eq_of_beq_eq_true hb1
    subst hb1
    have he:P.underlying e=some (.int .u8):=by
     unfold bytesT at hb2
     split at hb2
     ·assumption
     ·cases hb2
    rw [ht] at hd; cases hd
    cases hp
    obtain ⟨c,ct,fz,q1,q2,q3,q4,q5,q6⟩:=hw.ob id p _ h1 hob
    have hsh:w.shape? p.b=some (ct,c.size):=by unfold World.shape?; rw [q1]
    obtain ⟨hnS,hfz⟩:=q4 rfl
    have hheap:(w.freeze ⟨p.b,c.size,none⟩ 1).heap=w.heap.modify p.b (fun
      | .cells c' elem (lo,hi)=>.cells c' elem (if lo == hi then (c.size,c.size + 1) else (min lo c.size,max hi (c.size + 1)))
      | o=>o):=by unfold World.freeze; rw [if_neg (by decide)]; rfl
    have hat:(w.freeze ⟨p.b,c.size,none⟩ 1).heap[p.b]?=some (.cells c ct (if fz.1 == fz.2 then (c.size,c.size + 1) else (min fz.1 c.size,max fz.2 (c.size + 1)))):=by
     rw [hheap,Array.getElem?_modify,if_pos rfl,q1]; rfl
    have hupd:=hw.upd (w':=w.freeze ⟨p.b,c.size,none⟩ 1) (o':=.cells cs true z) h1 hob rfl hnS (by unfold World.freeze; rw [if_neg (by decide)]) (by unfold World.freeze; rw [if_neg (by decide)]) (by unfold World.freeze; rw [if_neg (by decide)]) (by rw [hheap]; simp)
     (fun b hb=>by rw [hheap,Array.getElem?_modify,if_neg (Ne.symm hb)])
     ⟨c,ct,_,hat,q2,q3,fun _=>⟨hnS,.inr (by
      rcases hfz with hfz | hfz
      ·rw [if_pos (by simp [hfz])]; exact Nat.le_refl _
      ·by_cases hq:fz.1=fz.2
       ·rw [if_pos (by simp [hq])]; exact Nat.le_refl _
       ·rw [if_neg (by simp [hq])]; simp only; omega)⟩,(fun e=>by cases e),q6⟩
    refine ⟨ρ,.value (.slice (some (p.at off)) len cap),.slice (some (p.at off)) len cap,_,?_,rfl,Ext.refl ρ,hupd,⟨p,h1,rfl⟩⟩
    simp only [execOp,ho,h2]
    simp [convert,run_underlying ht,run_underlying he,markStringish,hsh,Pl.at]
   ·cases hp
  ·cases hp
 ·cases hp
theorem sl_at {id off n:Nat} {cap:Option Nat} {v:Value} (h:(CV.sl id off n cap).R ρ v) (hn:0 < n):∃ p c,ρ id=some p ∧ v=.slice (some (p.at off)) n c:=by
 cases cap with
 | some c=>obtain ⟨p,h1,h2⟩:=h; exact ⟨p,c,h1,h2⟩
 | none =>
  obtain ⟨p,ad,c,h1,h2,h3,h4⟩:=h
  rcases h4 with ⟨rfl,_⟩ | ⟨h5,_⟩
  ·exact ⟨p,c,h1,h2⟩
  ·omega
theorem first_ok (hw:WR Z S F w0 ρ σ.heap σ.next w) (hv:HV ρ σ a o) {tx e':TypeId} {z:Nat} {x:Operand} (hx:x ∈ o.op.operands.toList) {m:Nat} {news:List CV} (hk:P.underlying tx=some (.slice e')) (h:srcOf P σ tx z x=some (m,news)) {n:Nat} (hn:n ≤ m) :
  ∃ vs:List Value,(∀ w',(Builtin.lenOf (a.eval x)).run P w'=.ok m w') ∧ (Builtin.firstCells z n (a.eval x)).run P w=.ok vs.toArray w ∧ CRs ρ (news.take (n * z)) vs ∧ vs.length=n * z:=by
 unfold srcOf at h
 split at h
 ·rename_i l hu hc
  rw [hk] at hu; cases hu
 ·rename_i e hu hc
  cases h
  have h1:a.eval x=.slice none 0 0:=hv.c hx hc
  have:n=0:=by omega
  subst this
  rw [h1]
  exact ⟨[],fun _=>rfl,run_firstCells_none w z 0 0 0,by simp [CRs],by simp⟩
 ·rename_i e id off len cap hu hc
  have hc':=hv.c hx hc
  split at h
  ·rename_i cs own zz hob
   cases hg:cs.gets off (len * z) with
   | none=>rw [hg] at h; cases h
   | some l =>
    rw [hg] at h; cases h
    obtain ⟨ad,c,hform⟩:=sl_form hc'
    by_cases hm:m=0
    ·subst hm
     have:n=0:=by omega
     subst this
     rw [hform]
     refine ⟨[],fun _=>rfl,?_,by simp [CRs],by simp⟩
     exact run_firstCells_some w z 0 ad 0 c [] (by simp) (fun j u hj=>by simp at hj)
    ·obtain ⟨p,c',h1,h2⟩:=sl_at hc' (by omega)
     obtain ⟨vs,k1,k2,k3⟩:=hw.reads h1 hob hg
     have hle:n * z ≤ m * z:=Nat.mul_le_mul_right _ hn
     rw [h2]
     refine ⟨vs.take (n * z),fun _=>rfl,?_,k2.take _,by simp; omega⟩
     exact run_firstCells_some w z n _ m c' _ (by simp; omega) (fun j u hj=>k3 j u (by
      rw [List.getElem?_take] at hj
      split at hj
      ·exact hj
      ·cases hj))
  ·cases h
 ·cases h
theorem copy_ok (hw:WR Z S F w0 ρ σ.heap σ.next w) (hv:HV ρ σ a o) {c:Call} (ho:o.op=.call c) (hc:c.callee=.builtin .copy) (hp:bigB P σ .copy c.argTypes.toList c.args.toList=.st σ' s):BOk P Z S F w0 ρ σ' s a w o:=by
 obtain ⟨callee,args,argTypes⟩:=c
 simp only at hc hp
 subst hc
 unfold bigB at hp
 split at hp
 ·rename_i e _ _; cases e
 rotate_left
 ·rename_i e _ _; cases e
 ·rename_i e _ _; cases e
 ·cases hp
 rename_i t tx d x _ ht hx
 have e1:argTypes=#[t,tx]:=by apply Array.ext'; simpa using ht
 have e2:args=#[d,x]:=by apply Array.ext'; simpa using hx
 subst e1; subst e2
 have m1:d ∈ o.op.operands.toList:=by rw [ho]; simp [Op.operands,Call.operands]
 have m2:x ∈ o.op.operands.toList:=by rw [ho]; simp [Op.operands,Call.operands]
 split at hp
 ·rename_i e e' cv hu hu2 hcv
  split at hp
  ·rename_i z hz
   split at hp
   ·rename_i m news hsrc
    split at hp
    ·cases hp
    ·rename_i hsol
     have hsol:news.all CV.solid=true:=by simpa using hsol
     have hd:=hv.c m1 hcv
     have fin:∀ {r:Value} {w':World},(Builtin.copy_ #[t,tx] o.type #[a.eval d,a.eval x]).run P w=.ok r w' → (execOp a.eval o).run P w=.ok (.value r) w':=by
      intro r w' hr
      refine map_append ho rfl ?_
      simp [builtin,hr]
     have run:∀ {base:Option Addr} {n cap:Nat} {vs:List Value} {w':World},a.eval d=.slice base n cap → (∀ w',(Builtin.lenOf (a.eval x)).run P w'=.ok m w') → (Builtin.firstCells z (Nat.min m n) (a.eval x)).run P w=.ok vs.toArray w →
       ((match base with | some ad=>storeCells ad vs.toArray.toList | none=>pure ():Sem Unit).run P w=.ok () w') → (Builtin.copy_ #[t,tx] o.type #[a.eval d,a.eval x]).run P w=.ok (goInt (Nat.min m n)) w':=by
      intro base n cap vs w' hev hl hf hst
      rw [hev]
      cases base with
      | none =>
       simp only at hst
       simp [Builtin.copy_,run_underlying hu,hl,Sx.run_sizeOf hz,hf]
       simpa using hst
      | some ad =>
       simp only at hst
       simp [Builtin.copy_,run_underlying hu,hl,Sx.run_sizeOf hz,hf]
       rw [hst]; rfl
     split at hp
     ·cases hp
      have hev:a.eval d=.slice none 0 0:=hd
      obtain ⟨vs,k1,k2,k3,k4⟩:=first_ok hw hv m2 hu2 hsrc (Nat.zero_le m)
      have:=run (base:=none) (n:=0) (w':=w) hev k1 (by simpa using k2) rfl
      exact ⟨ρ,_,_,w,fin this,rfl,Ext.refl ρ,hw,by simp [SV.R,V.R,CV.R,goInt]⟩
     ·rename_i id off n cap
      split at hp
      ·rename_i cs zz hob
       obtain ⟨vs,k1,k2,k3,k4⟩:=first_ok hw hv m2 hu2 hsrc (n:=Nat.min m n) (Nat.min_le_left m n)
       obtain ⟨ad,c0,hform⟩:=sl_form hd
       split at hp
       ·rename_i h0
        cases hp
        have h0:=Nat.eq_of_beq_eq_true h0
        have hvs:vs=[]:=by rw [h0] at k4; simpa using k4
        subst hvs
        have:=run (base:=some ad) (n:=n) (w':=w) hform k1 k2 (by simp [storeCells])
        exact ⟨ρ,_,_,w,fin this,rfl,Ext.refl ρ,hw,rfl⟩
       ·rename_i h0
        have h0:Nat.min m n * z ≠ 0:=by
         intro e; apply h0; rw [e]; rfl
        split at hp
        ·rename_i hg
         cases hp
         obtain ⟨l,hg⟩:=Option.isSome_iff_exists.1 hg
         have hn0:0 < n:=by
          rcases Nat.eq_zero_or_pos n with e | e
          ·subst e; simp at h0
          ·exact e
         obtain ⟨p,c1,h1,h2⟩:=sl_at hd hn0
         have hroom:=gets_room hg hw h1 hob (by omega)
         have htl:=CRs.length k3
         have hst:=hw.store h1 hob (off:=off) k3 (by omega)
         obtain ⟨r1,r2⟩:=hw.room h1 hob hroom
         have hone:=k3.one (by
          rw [List.all_eq_true] at hsol ⊢
          exact fun y hy=>hsol y (List.mem_of_mem_take hy))
         have hrun:=run_storeCells_cells (P:=P) p.b (p.o + off) vs 0 w (by simpa [k4] using r1) (by simpa [k4] using r2) hone
         simp only [Nat.add_zero] at hrun
         have:=run (base:=some (p.at off)) (n:=n) h2 k1 k2 (by simpa [Pl.at] using hrun)
         exact ⟨ρ,_,_,_,fin this,rfl,Ext.refl ρ,hst,rfl⟩
        ·cases hp
      ·cases hp
     ·cases hp
   ·cases hp
  ·cases hp
 ·cases hp
end
end Go.Cx
