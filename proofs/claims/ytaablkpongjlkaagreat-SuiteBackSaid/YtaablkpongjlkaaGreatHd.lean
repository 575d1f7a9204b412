/- Part Hd of the proof. -/
import Derived.Test.YtaablkpongjlkaaGreatHc
import Derived.Test.YtaablkpongjlkaaGreatHb
import Derived.Deep.Slices
set_option linter.unusedVariables false
set_option linter.unusedSimpArgs false
namespace Go.Sx
open Go Go.RowKit
section
variable {P:Program} {T:List K} {w0:World} {m:M} {Z:St} {a:Act} {w:World} {o:Oper} {nn nid:Nat} {p:Plan}
theorem bounds_opt (h:Rep w0 m Z a w) {lo:Option Operand} {l:Option Nat} (hl:bndOf Z lo=some l) :
  (∀ v,lo.map a.eval=some v->∃ n k,l=some n/\v=.int k (n:Int))/\(lo.map a.eval=none->l=none):=by
 unfold bndOf at hl
 cases lo with
 | none=>simp at hl;subst hl;simp
 | some x =>
  simp only at hl
  cases hi:idx Z x with
  | none=>simp [hi] at hl
  | some n =>
   simp [hi] at hl
   subst hl
   obtain ⟨k,hk⟩:=idx_int h hi
   refine ⟨fun v hv=>?_,by simp⟩
   simp at hv
   exact ⟨n,k,rfl,by rw [<- hv,hk]⟩
theorem at_slice (m:M) (id off l s:Nat) (b:Prop) [Decidable b]:(if b then m.at id off else (m.at id off).add (l*s))=m.at id (if b then off else off+l*s):=by
 split
 ·rfl
 ·rw [at_add]
theorem bndA_ok (h:Rep w0 m Z a w) {o:Option Operand} {l:Option A} (hl:bndA Z o=some l) :
  (∀ v,o.map a.eval=some v->∃ y k,l=some y/\y.wf Z.nv m.env/\v=.int k (y.ev m.env))/\(o.map a.eval=none->l=none):=by
 unfold bndA at hl
 cases o with
 | none=>simp at hl;subst hl;simp
 | some x =>
  simp only at hl
  split at hl
  ·rename_i k y hc
   cases hl
   have h1:=h.cell hc
   refine ⟨fun v hv=>?_,by simp⟩
   simp at hv
   exact ⟨y,k,rfl,h1.1,by rw [<- hv,h1.2.2]⟩
  ·cases hl
theorem bit_yes {b:Prop} [Decidable b] (h:b2i (decide b)≠0):b:=by
 by_cases hc:b
 ·exact hc
 ·simp [hc,b2i] at h
theorem part_pure {t e:TypeId} {x:Operand} {lo hi:Option Operand} (h:Rep w0 m Z a w) (ho:o.op=.slice t x lo hi none) (hu:P.underlying t=some (.slice e)) {id:Nat} {r:Row} {s:Nat} (hr:Z.row id=some r)
  (hs:szOf P e=some s) (hsz:s=r.k.sz) {l h':Option A} (hl:bndA Z lo=some l) (hh:bndA Z hi=some h') {d:A} {n:Nat} (hd:hi=none->d.wf Z.nv m.env/\d.ev m.env=(n:Int))
  {b:Option Addr} {n0 cap:Nat} (hv:a.eval x=.slice b n cap) (hsv:m.sv id=.slice b n0 cap) (hp:partP nn id r (l.getD (.lit 0)) (h'.getD d)=.ok p)
  (hdf:DefsOk T m.env Z.nv nn p.defs) (hz:∀ x∈p.nz,x.ev m.env≠0):PureOk P m Z a w o p.val:=by
 obtain ⟨q1,q2,q5,q6,q3⟩:=h.row_ok hr
 unfold partP at hp
 cases hp
 have hlv:=q3.lenV
 rw [hsv] at hlv
 have hlv:n0=(dec (A.ev m.env r.x)).length:=hlv
 have hcap:n0<=cap:=by
  rcases q3.form with ⟨f1,f2⟩ | ⟨ad,c,f1,f2⟩
  ·rw [f2] at hlv;simp at hlv;omega
  ·rw [hsv] at f1;cases f1;exact f2
 have hbig:=q3.1.1
 obtain ⟨bl1,bl2⟩:=bndA_ok h hl
 obtain ⟨bh1,bh2⟩:=bndA_ok h hh
 generalize hlo:l.getD (.lit 0)=loA at *
 generalize hhi:h'.getD d=hiA at *
 have d0:m.env nn=(n0:Int):=by
  have:=(hdf.2 0 _ _ rfl).1
  simpa [D.ev,q6,<- hlv] using this
 have d1:m.env (nn+1)=b2i (decide (0<=loA.ev m.env)):=(hdf.2 1 _ _ rfl).1
 have d2:m.env (nn+2)=b2i (decide (loA.ev m.env<=hiA.ev m.env)):=(hdf.2 2 _ _ rfl).1
 have d3:m.env (nn+3)=b2i (decide (hiA.ev m.env<=m.env nn)):=(hdf.2 3 _ _ rfl).1
 have z1:0<=loA.ev m.env:=bit_yes (by rw [<- d1];exact hz (.var (nn+1)) (by simp))
 have z2:loA.ev m.env<=hiA.ev m.env:=bit_yes (by rw [<- d2];exact hz (.var (nn+2)) (by simp))
 have z3:hiA.ev m.env<=m.env nn:=bit_yes (by rw [<- d3];exact hz (.var (nn+3)) (by simp))
 rw [d0] at z3
 obtain ⟨x0,hx0⟩:=Int.eq_ofNat_of_zero_le z1
 obtain ⟨x1,hx1⟩:=Int.eq_ofNat_of_zero_le (Int.le_trans z1 z2)
 rw [hx0,hx1] at z2
 rw [hx1] at z3
 have wlo:loA.wf Z.nv m.env/\(lo=none->l=none/\x0=0):=by
  cases lo with
  | none =>
   have:=bl2 rfl
   subst this
   simp at hlo;subst hlo
   exact ⟨⟨trivial,trivial⟩,fun _=>⟨rfl,by simp [A.ev] at hx0;omega⟩⟩
  | some z =>
   obtain ⟨y,k,e1,e2,_⟩:=bl1 _ rfl
   subst e1
   simp at hlo;subst hlo
   exact ⟨e2,fun h=>by cases h⟩
 have whi:hiA.wf Z.nv m.env/\(hi=none->h'=none/\x1=n):=by
  cases hi with
  | none =>
   have:=bh2 rfl
   subst this
   simp at hhi;subst hhi
   obtain ⟨e1,e2⟩:=hd rfl
   exact ⟨e1,fun _=>⟨rfl,by rw [e2] at hx1;omega⟩⟩
  | some z =>
   obtain ⟨y,k,e1,e2,_⟩:=bh1 _ rfl
   subst e1
   simp at hhi;subst hhi
   exact ⟨e2,fun h=>by cases h⟩
 have hsb:=run_sliceBounds (P:=P) (w:=w) (b:=true) (len:=n) (cap:=cap) (lo:=lo.map a.eval) (hi:=hi.map a.eval) (l:=lo.map fun _=>x0) (h:=hi.map fun _=>x1)
  (fun v hv=>by
   cases lo with
   | none=>cases hv
   | some z =>
    obtain ⟨y,k,e1,e2,e3⟩:=bl1 v hv
    subst e1
    simp at hlo;subst hlo
    exact ⟨x0,k,rfl,by rw [e3,hx0]⟩)
  (fun e=>by cases lo with | none=>rfl | some z=>cases e)
  (fun v hv=>by
   cases hi with
   | none=>cases hv
   | some z =>
    obtain ⟨y,k,e1,e2,e3⟩:=bh1 v hv
    subst e1
    simp at hhi;subst hhi
    exact ⟨x1,k,rfl,by rw [e3,hx1]⟩)
  (fun e=>by cases hi with | none=>rfl | some z=>cases e)
  (by cases hi with
   | none=>have:=(whi.2 rfl).2;simp;omega
   | some z=>simp;omega)
  (by
   have e1:(lo.map fun _=>x0).getD 0=x0:=by cases lo with | none=>exact (wlo.2 rfl).2.symm | some z=>rfl
   have e2:(hi.map fun _=>x1).getD n=x1:=by cases hi with | none=>exact (whi.2 rfl).2.symm | some z=>rfl
   rw [e1,e2];omega)
 have e1:(lo.map fun _=>x0).getD 0=x0:=by cases lo with | none=>exact (wlo.2 rfl).2.symm | some z=>rfl
 have e2:(hi.map fun _=>x1).getD n=x1:=by cases hi with | none=>exact (whi.2 rfl).2.symm | some z=>rfl
 rw [e1,e2] at hsb
 refine ⟨subV r.k.sz (m.sv id) x0 x1,?_,q1,wlo.1,whi.1,⟨z1,by rw [hx0,hx1];exact z2,by rw [hsv,hx1];exact z3,by omega⟩,by rw [hx0,hx1];rfl,sub_one (by rw [hsv];rfl)⟩
 rw [hsv,<- hsz]
 simp only [execOp,ho,hv,Instr.sliceAt,Instr.slice,subV]
 simp [run_underlying hu,hsb,run_sizeOf hs]
theorem pure_slice {t:TypeId} {x:Operand} {lo hi mx:Option Operand} (h:Rep w0 m Z a w) (ho:o.op=.slice t x lo hi mx) (hp:plan P T Z nn nid o.op=.ok p) (hdf:DefsOk T m.env Z.nv nn p.defs) (hz:∀ x∈p.nz,x.ev m.env≠0):PureOk P m Z a w o p.val:=by
 rw [ho] at hp
 simp only [plan] at hp
 split at hp
 ·cases hp
 ·rename_i hmx
  have hmx':mx=none:=by simpa using hmx
  subst hmx'
  split at hp
  ·rename_i n e id off hu hx
   have h1:=h.cell hx
   split at hp
   ·rename_i l hh s hl hh' hs
    obtain ⟨bl1,bl2⟩:=bounds_opt h hl
    obtain ⟨bh1,bh2⟩:=bounds_opt h hh'
    split at hp
    ·rename_i hb
     cases hp
     simp only [Bool.and_eq_true,decide_eq_true_eq] at hb
     have hsb:=run_sliceBounds (P:=P) (w:=w) (b:=false) (len:=n) (cap:=n) bl1 bl2 bh1 bh2 hb.1 hb.2
     refine ⟨.slice (some (m.at id (if n=l.getD 0 then off else off+l.getD 0*s))) (hh.getD n-l.getD 0) (n-l.getD 0),?_,h1.1,rfl⟩
     simp only [execOp,ho,h1.2,Instr.sliceAt]
     simp [run_underlying hu,Instr.sureAddr,hsb,run_sizeOf hs,at_slice]
    ·cases hp
   ·split at hp
    ·rename_i y s hy hs _
     cases hp
     obtain ⟨bh1,bh2⟩:=bndA_ok h hy
     have d1:m.env nn=b2i (decide ((0:Int)<=y.ev m.env)):=(hdf.2 0 _ _ rfl).1
     have d2:m.env (nn+1)=b2i (decide (y.ev m.env<=(n:Int))):=(hdf.2 1 _ _ rfl).1
     have z1:(0:Int)<=y.ev m.env:=bit_yes (by rw [<- d1];exact hz (.var nn) (by simp))
     have z2:y.ev m.env<=(n:Int):=bit_yes (by rw [<- d2];exact hz (.var (nn+1)) (by simp))
     cases hi with
     | none=>cases bh2 rfl
     | some hx' =>
      obtain ⟨y',k,e1,e2,e3⟩:=bh1 _ rfl
      cases e1
      obtain ⟨x1,hx1⟩:=Int.eq_ofNat_of_zero_le z1
      have hsb:=run_sliceBounds (P:=P) (w:=w) (b:=false) (len:=n) (cap:=n) (lo:=none) (hi:=some (a.eval hx')) (l:=none) (h:=some x1) (fun v hv=>by cases hv) (fun _=>rfl)
       (fun v hv=>by cases hv;exact ⟨x1,k,rfl,by rw [e3,hx1]⟩) (fun e=>by cases e) (by simp;omega) (by simp)
      refine ⟨.slice (some (m.at id off)) x1 n,?_,h1.1,e2,⟨z1,z2⟩,by rw [hx1];rfl⟩
      simp only [execOp,ho,h1.2,Instr.sliceAt]
      simp [run_underlying hu,Instr.sureAddr,hsb,run_sizeOf hs,at_add]
    ·cases hp
  ·rename_i e id off len cap hu hx
   have h1:=h.cell hx
   split at hp
   ·rename_i l hh s hl hh' hs
    obtain ⟨bl1,bl2⟩:=bounds_opt h hl
    obtain ⟨bh1,bh2⟩:=bounds_opt h hh'
    split at hp
    ·rename_i hb
     cases hp
     simp only [Bool.and_eq_true,decide_eq_true_eq] at hb
     have hsb:=run_sliceBounds (P:=P) (w:=w) (b:=true) (len:=len) (cap:=cap) bl1 bl2 bh1 bh2 hb.1 hb.2
     refine ⟨.slice (some (m.at id (if cap=l.getD 0 then off else off+l.getD 0*s))) (hh.getD len-l.getD 0) (cap-l.getD 0),?_,h1.1,rfl⟩
     simp only [execOp,ho,h1.2,Instr.sliceAt,Instr.slice]
     simp [run_underlying hu,hsb,run_sizeOf hs]
     rw [<- at_slice]
     split <;> rfl
    ·cases hp
   ·cases hp
  ·rename_i e id hu hx
   obtain ⟨c1,c2,c3⟩:=h.cell hx
   split at hp
   ·rename_i r l hh s hr hl hh' hs
    split at hp
    ·rename_i hsz
     have hsz:s=r.k.sz:=by simpa using hsz
     obtain ⟨q1,q2,q5,q6,q3⟩:=h.row_ok hr
     obtain ⟨b,cap,hsv⟩:=q3.len
     refine part_pure (d:=.var nn) h ho hu hr hs hsz hl hh' (fun _=>?_) (c2.trans hsv) hsv hp hdf hz
     have e0:p.defs[0]?=some (.int .i64,.llen r.x0):=by unfold partP at hp;cases hp;rfl
     refine ⟨⟨?_,trivial⟩,?_⟩
     ·have:=hdf.1
      have hlp:=(List.getElem?_eq_some_iff.1 e0).1
      show nn<Z.nv
      omega
     ·have:=(hdf.2 0 _ _ e0).1
      rw [Nat.add_zero] at this
      show m.env nn=_
      rw [this];simp only [D.ev,q6]
    ·cases hp
   ·cases hp
  ·rename_i e id lo' hi' k hu hx
   obtain ⟨b1,b2,b3,b4,b5,b6⟩:=h.cell hx
   split at hp
   ·rename_i r l hh s hr hl hh' hs
    split at hp
    ·rename_i hc
     simp only [Bool.and_eq_true,beq_iff_eq] at hc
     obtain ⟨⟨hc1,hc2⟩,hc3⟩:=hc
     have hk:=LKeq_ok hc2
     subst hk
     have hz0:=isZ_ok hc3
     subst hz0
     obtain ⟨q1,q2,q5,q6,q3⟩:=h.row_ok hr
     obtain ⟨b,cap,hsv⟩:=q3.len
     refine part_pure (d:=hi') (n:=(hi'.ev m.env).toNat) h ho hu hr hs hc1 hl hh' (fun _=>⟨b3,?_⟩) (by rw [b5,hsv];exact subV_zero ..) hsv hp hdf hz
     have:=b4.2.1
     simp only [A.ev] at this
     omega
    ·cases hp
   ·cases hp
  ·cases hp
theorem pure_build {t:TypeId} {ps:Array (Nat×Operand)} (h:Rep w0 m Z a w) (ho:o.op=.build t ps) (hp:plan P T Z nn nid o.op=.ok p):PureOk P m Z a w o p.val:=by
 rw [ho] at hp
 simp only [plan] at hp
 have fin:∀ {cs:Array Value},P.built t (ps.map fun (i,x)=>(i,a.eval x)).toList=some cs->(execOp a.eval o).run P w=.ok (.value (.agg cs)) w:=by
  intro cs hc
  simp only [execOp,ho]
  simp [run_build w t _ cs hc]
 split at hp
 ·rename_i i fs l hi hu hl
  split at hp
  ·rename_i z places hz hpl
   split at hp
   ·rename_i zv hzv
    split at hp
    ·rename_i cs hcs
     split at hp
     ·rename_i hsol
      cases hp
      obtain ⟨zs,hz1,hz2,_⟩:=V.rel_cells (m:=m) (nv:=Z.nv) (al:=Z.al) (vOf_rel hzv).1 (vOf_rel (m:=m) (nv:=Z.nv) (al:=Z.al) hzv).2
      obtain ⟨vs,hv1,hv2⟩:=fill_ok (m:=m) _ l hsol (parts_ok h _ _ hl hsol) _ _ _ hz2 hcs
      refine ⟨.agg vs.toArray,fin ?_,vs,rfl,hv2⟩
      have e:(fun j:Nat=>places[j]?)=fun j:Nat=>places.toArray[j]?:=by funext j;simp
      rw [e] at hv1
      simp only [Program.built,hi,hu,hz,hpl,hz1]
      simpa using hv1
     ·cases hp
    ·cases hp
   ·cases hp
  ·cases hp
 ·rename_i i n e l hi hu hl
  split at hp
  ·rename_i z s hz hs
   split at hp
   ·rename_i zv hzv
    split at hp
    ·rename_i cs hcs
     split at hp
     ·rename_i hsol
      cases hp
      obtain ⟨zs,hz1,hz2,_⟩:=V.rel_cells (m:=m) (nv:=Z.nv) (al:=Z.al) (vOf_rel hzv).1 (vOf_rel (m:=m) (nv:=Z.nv) (al:=Z.al) hzv).2
      obtain ⟨vs,hv1,hv2⟩:=fill_ok (m:=m) _ l hsol (parts_ok h _ _ hl hsol) _ _ _ hz2 hcs
      refine ⟨.agg vs.toArray,fin ?_,vs,rfl,hv2⟩
      unfold szOf at hs
      cases he:P.info? e with
      | none=>simp [he] at hs
      | some ie =>
       simp [he] at hs
       subst hs
       simp only [Program.built,hi,hu,hz,he,hz1]
       simpa using hv1
     ·cases hp
    ·cases hp
   ·cases hp
  ·cases hp
 ·cases hp
theorem args_ok (h:Rep w0 m Z a w):∀ (xs:List Operand) (l:List V),mapO Z.v xs=some l->VRels m Z.nv Z.al l (xs.map a.eval):=by
 intro xs
 induction xs with
 | nil=>intro l hl;simp [mapO] at hl;subst hl;trivial
 | cons x xs ih =>
  intro l hl
  unfold mapO at hl
  split at hl
  ·cases hl
  ·rename_i y hy
   split at hl
   ·cases hl
   ·rename_i ys hys
    cases hl
    exact ⟨h.v_ hy,ih ys hys⟩
def NewOk (P:Program) (m:M) (Z:St) (a:Act) (w:World) (o:Oper) (e:TypeId) (cs:List C) (f:Addr->Value):Prop :=
 ∃ vs:List Value,(execOp a.eval o).run P w=.ok (.value (f ⟨w.heap.size,0,none⟩)) (w.alloc (.cells vs.toArray e))/\Rels m Z.nv Z.al cs vs
theorem new_alloc {e:TypeId} (ho:o.op=.alloc e) (hp:plan P T Z nn nid o.op=.ok p) :
  ∃ cs,p={val:=.vl (.one (.ptr nid 0)),eff:=.new {cells:=cs,elem:=e,own:=true } }/\NewOk P m Z a w o e cs (fun ad=>.pointer (some ad)):=by
 rw [ho] at hp
 simp only [plan] at hp
 split at hp
 ·rename_i i hi
  split at hp
  ·rename_i z hz
   split at hp
   ·rename_i v hv
    cases hp
    obtain ⟨vs,h1,h2,_⟩:=V.rel_cells (m:=m) (nv:=Z.nv) (al:=Z.al) (vOf_rel hv).1 (vOf_rel (m:=m) (nv:=Z.nv) (al:=Z.al) hv).2
    refine ⟨_,rfl,vs,?_,h2⟩
    simp only [execOp,ho,Instr.alloc]
    simp [run_zeroValue hi hz,newVar,newRow,h1]
   ·cases hp
  ·cases hp
 ·cases hp
theorem new_box {e:TypeId} {x:Operand} (h:Rep w0 m Z a w) (ho:o.op=.box e x) (hp:plan P T Z nn nid o.op=.ok p) :
  ∃ cs,p={val:=.vl (.one (.ptr nid 0)),eff:=.new {cells:=cs,elem:=e,own:=true } }/\NewOk P m Z a w o e cs (fun ad=>.pointer (some ad)):=by
 rw [ho] at hp
 simp only [plan] at hp
 split at hp
 ·rename_i v hv
  split at hp
  ·rename_i hs
   cases hp
   obtain ⟨vs,h1,h2,_⟩:=V.rel_cells (h.v_ hv) hs
   refine ⟨_,rfl,vs,?_,h2⟩
   simp only [execOp,ho,Instr.box]
   simp [newVar,newRow,h1]
  ·cases hp
 ·cases hp
theorem range_mod (zs:List Value):∀ n:Nat,(List.range (n*zs.length)).map (fun i=>zs.getD (i%zs.length) default)=(List.replicate n zs).flatten:=by
 intro n
 induction n with
 | zero=>simp
 | succ n ih =>
  rw [Nat.add_mul,Nat.one_mul,List.range_add,List.map_append,ih,List.replicate_succ',List.flatten_append]
  congr 1
  simp only [List.flatten_cons,List.flatten_nil,List.append_nil,List.map_map]
  apply List.ext_getElem?
  intro j
  simp only [List.getElem?_map]
  by_cases hj:j<zs.length
  ·simp [hj,Nat.mod_eq_of_lt hj]
  ·simp [hj]
theorem rels_flatten {nv:Nat} {al:Nat->Bool} {cs:List C} {vs:List Value} (h:Rels m nv al cs vs):∀ n,Rels m nv al (List.replicate n cs).flatten (List.replicate n vs).flatten:=by
 intro n
 induction n with
 | zero=>simp [Rels]
 | succ n ih=>rw [List.replicate_succ,List.replicate_succ,List.flatten_cons,List.flatten_cons];exact h.append ih
theorem new_buildSlice {t:TypeId} {len:Nat} {ps:Array (Nat×Operand)} (h:Rep w0 m Z a w) (ho:o.op=.buildSlice t len ps) (he:emptyP P nid t len ps=none) (hp:plan P T Z nn nid o.op=.ok p) :
  ∃ cs e,p={val:=.vl (.one (.slice nid 0 len len)),eff:=.new {cells:=cs,elem:=e,own:=true } }/\NewOk P m Z a w o e cs (fun ad=>.slice (some ad) len len):=by
 rw [ho] at hp
 simp only [plan,he] at hp
 split at hp
 ·rename_i e l hu hl
  split at hp
  ·rename_i i hi
   split at hp
   ·rename_i z hz
    split at hp
    ·rename_i zv hzv
     split at hp
     ·rename_i hc
      simp only [Bool.and_eq_true,decide_eq_true_eq,beq_iff_eq] at hc
      obtain ⟨⟨hc1,hc2⟩,hc3⟩:=hc
      split at hp
      ·rename_i cs hcs
       split at hp
       ·rename_i hsol
        cases hp
        obtain ⟨zs,hz1,hz2,_⟩:=V.rel_cells (m:=m) (nv:=Z.nv) (al:=Z.al) (vOf_rel hzv).1 (vOf_rel (m:=m) (nv:=Z.nv) (al:=Z.al) hzv).2
        have hzl:zs.length=i.size:=by rw [<- Rels.length hz2];exact hc1
        obtain ⟨vs,hv1,hv2⟩:=fill_ok (m:=m) _ l hsol (parts_ok h _ _ hl hsol) _ _ _ (rels_flatten hz2 len) hcs
        refine ⟨_,_,rfl,vs,?_,hv2⟩
        have hsz:szOf P e=some i.size:=by simp [szOf,hi]
        have hrow:(Array.map (fun x=>zs[x%zs.length]?.getD default) (Array.range (len*i.size)))=((List.replicate len zs).flatten).toArray:=by
         apply Array.ext'
         rw [<- hzl,<- range_mod zs len]
         simp
        have hv1':Instr.fill (fun j=>some (j*i.size,i.size)) ((List.replicate len zs).flatten).toArray (List.map (fun x=>(x.fst,a.eval x.snd)) ps.toList)=some vs.toArray:=hv1
        simp only [execOp,ho,Instr.buildSlice]
        have hne:len*i.size=0∨¬ len*i.size=0:=Decidable.em _
        simp only [Sem.run_bind,run_underlying hu,Result.andThen_ok,run_sizeOf hsz]
        rw [if_neg (by omega)]
        rcases hne with h0 | h0
        ·have:len=0:=by rcases Nat.mul_eq_zero.1 h0 with h | h <;> omega
         subst this
         have he:Array.map (fun (_:Nat)=>(default:Value)) (Array.range 0)=#[]:=Array.ext' (by simp)
         simp at hv1'
         simp [he,hv1',newRow]
        ·simp [h0,run_zeroValue hi hz,hz1]
         rw [hrow]
         simp [hv1',newRow]
       ·cases hp
      ·cases hp
     ·cases hp
    ·cases hp
   ·cases hp
  ·cases hp
 ·cases hp
theorem putDs_get (k:IntKind) (i x:A):∀ (as:List A) (j0 j:Nat),(putDs k i x as j0)[j]?=as[j]?.map fun y=>(.int k,.put i (j0+j) x y)
 | [],j0,j=>by simp [putDs]
 | y::as,j0,j=>by
  cases j with
  | zero=>simp [putDs]
  | succ j=>simp only [putDs,List.getElem?_cons_succ,putDs_get k i x as (j0+1) j];congr 1;funext z;rw [show j0+1+j=j0+(j+1) by omega]
theorem putDs_len (k:IntKind) (i x:A):∀ (as:List A) (j0:Nat),(putDs k i x as j0).length=as.length
 | [],_=>rfl
 | _::as,j0=>by simp [putDs,putDs_len k i x as (j0+1)]
theorem putCs_get (k:IntKind):∀ (n nn j:Nat) (c:C),(putCs k nn n)[j]?=some c->j<n/\c=.int k (.var (nn+j))
 | 0,nn,j,c,h=>by simp [putCs] at h
 | n+1,nn,j,c,h=>by
  cases j with
  | zero=>simp [putCs] at h;exact ⟨by omega,by rw [<- h];rfl⟩
  | succ j =>
   obtain ⟨h1,h2⟩:=putCs_get k n (nn+1) j c (by simpa [putCs] using h)
   exact ⟨by omega,by rw [h2,show nn+1+j=nn+(j+1) by omega]⟩
theorem putCs_len (k:IntKind):∀ (n nn:Nat),(putCs k nn n).length=n
 | 0,_=>rfl
 | n+1,nn=>by simp [putCs,putCs_len k n (nn+1)]
theorem set_row {us:List Value} {off n i:Nat} {v:Value} (hi:i<n) (hl:off+n<=us.length) :
  us.take (off+i)++[v]++us.drop (off+i+1)=us.take off++((us.drop off).take n).set i v++us.drop (off+(((us.drop off).take n).set i v).length):=by
 have hn:(((us.drop off).take n).set i v).length=n:=by simp;omega
 rw [hn]
 apply List.ext_getElem?
 intro j
 simp only [List.append_assoc,List.getElem?_append,List.length_take,List.getElem?_take,List.getElem?_drop,List.length_set,List.getElem?_set,List.length_drop,List.length_singleton]
 have e1:min (off+i) us.length=off+i:=by omega
 have e2:min off us.length=off:=by omega
 have e3:min n (us.length-off)=n:=by omega
 rw [e1,e2,e3]
 by_cases h1:j<off
 ·simp [h1,show j<off+i by omega]
 ·by_cases h2:j<off+i
  ·simp only [h1,h2,if_true,if_false,show j-off<n by omega,show ¬ i=j-off by omega]
   congr 1;omega
  ·by_cases h3:j=off+i
   ·subst h3
    simp [show i<n by omega,show ¬ off+i<off by omega]
   ·have h4:¬ j-(off+i)<1:=by omega
    simp only [h1,h2,h4,if_false]
    by_cases h5:j-off<n
    ·simp only [h5,if_true,show ¬ i=j-off by omega,if_false];congr 1;omega
    ·simp only [h5,if_false];congr 1;omega
end
def D.ok (n:Nat):D->Prop
 | .bin _ _ a b=>a.ok n/\b.ok n
 | .cmp _ a b=>a.ok n/\b.ok n
 | .conv _ a=>a.ok n
 | .not a=>a.ok n
 | .app _ _ as=>∀ a∈as,a.ok n
 | .join as=>∀ a∈as,a.ok n
 | .eqs l=>∀ p∈l,p.1.ok n/\p.2.ok n
 | .sel i as=>i.ok n/\∀ a∈as,a.ok n
 | .put i _ x y=>i.ok n/\x.ok n/\y.ok n
 | .llen x=>x.ok n
 | .lget x i=>x.ok n/\i.ok n
 | .lapp x as=>x.ok n/\∀ a∈as,a.ok n
 | .lsub x lo hi=>x.ok n/\lo.ok n/\hi.ok n
 | .lput x i y=>x.ok n/\i.ok n/\y.ok n
 | .lrep c y=>c.ok n/\y.ok n
 | .lcpy x y=>x.ok n/\y.ok n
 | .lcat x y=>x.ok n/\y.ok n
 | .lsame x y=>x.ok n/\y.ok n
theorem map_ev_congr {as:List A} {n:Nat} {e e':Nat->Int} (h:∀ a∈as,a.ok n) (he:∀ i,i<n->e' i=e i):as.map (·.ev e')=as.map (·.ev e) :=
 List.map_congr_left fun a ha=>A.ev_congr (h a ha) he
theorem D.ev_congr {T:List K} {d:D} {n:Nat} {e e':Nat->Int} (h:d.ok n) (he:∀ i,i<n->e' i=e i):d.ev T e'=d.ev T e:=by
 cases d with
 | bin op k a b=>simp only [D.ev,A.ev_congr h.1 he,A.ev_congr h.2 he]
 | cmp op a b=>simp only [D.ev,A.ev_congr h.1 he,A.ev_congr h.2 he]
 | conv k a=>simp only [D.ev,A.ev_congr h he]
 | not a=>simp only [D.ev,A.ev_congr h he]
 | app g j as=>simp only [D.ev,map_ev_congr h he]
 | join as=>simp only [D.ev,map_ev_congr h he]
 | sel i as=>simp only [D.ev,A.ev_congr h.1 he,map_ev_congr h.2 he]
 | put i j x y=>simp only [D.ev,A.ev_congr h.1 he,A.ev_congr h.2.1 he,A.ev_congr h.2.2 he]
 | llen x=>simp only [D.ev,A.ev_congr h he]
 | lget x i=>simp only [D.ev,A.ev_congr h.1 he,A.ev_congr h.2 he]
 | lapp x as=>simp only [D.ev,A.ev_congr h.1 he,map_ev_congr h.2 he]
 | lsub x lo hi=>simp only [D.ev,A.ev_congr h.1 he,A.ev_congr h.2.1 he,A.ev_congr h.2.2 he]
 | lput x i y=>simp only [D.ev,A.ev_congr h.1 he,A.ev_congr h.2.1 he,A.ev_congr h.2.2 he]
 | lrep c y=>simp only [D.ev,A.ev_congr h.1 he,A.ev_congr h.2 he]
 | lcpy x y=>simp only [D.ev,A.ev_congr h.1 he,A.ev_congr h.2 he]
 | lcat x y=>simp only [D.ev,A.ev_congr h.1 he,A.ev_congr h.2 he]
 | lsame x y=>simp only [D.ev,A.ev_congr h.1 he,A.ev_congr h.2 he]
 | eqs l =>
  simp only [D.ev]
  congr 1
  induction l with
  | nil=>rfl
  | cons p l ih =>
   have hp:=h p (List.mem_cons_self ..)
   simp only [List.all_cons,A.ev_congr hp.1 he,A.ev_congr hp.2 he]
   rw [ih fun q hq=>h q (List.mem_cons_of_mem _ hq)]
def GenOk (T:List K):(Nat->Int)->Nat->Defs->Prop
 | _,_,[]=>True
 | e,nn,(kk,d)::ds=>d.ok nn/\kk.has (d.ev T e)/\GenOk T (upd e nn (d.ev T e)) (nn+1) ds
def Told (T:List K) (e':Nat->Int) (nn:Nat) (ds:Defs):Prop :=
 ∀ (i:Nat) kk d,ds[i]?=some (kk,d)->e' (nn+i)=d.ev T e'/\kk.has (e' (nn+i))
section
variable {T:List K}
theorem letts_holds {goal:Gl} {t:Tree}:∀ (ds:Defs) (e:Nat->Int) (nn:Nat),(letts nn ds t).holds T goal e->GenOk T e nn ds ->
  ∃ e',(∀ i,i<nn->e' i=e i)/\(∀ i,nn+ds.length<=i->e' i=e i)/\Told T e' nn ds/\t.holds T goal e':=by
 intro ds
 induction ds with
 | nil=>intro e nn h _;exact ⟨e,fun _ _=>rfl,fun _ _=>rfl,fun i kk d h=>by simp at h,h⟩
 | cons x ds ih =>
  intro e nn h hg
  obtain ⟨kk,d⟩:=x
  obtain ⟨h1,h2,h3⟩:=hg
  have h4:=h _ rfl h2
  obtain ⟨e',g1,g2,g3,g4⟩:=ih _ _ h4 h3
  have hlow:∀ i,i<nn->e' i=e i:=fun i hi=>by rw [g1 i (by omega)];simp [upd];omega
  have hev:d.ev T e'=d.ev T e:=D.ev_congr h1 hlow
  have hnn:e' nn=d.ev T e:=by rw [g1 nn (by omega)];simp [upd]
  refine ⟨e',hlow,fun i hi=>?_,fun i kk' d' hi=>?_,g4⟩
  ·simp only [List.length_cons] at hi
   rw [g2 i (by omega)];simp [upd];omega
  ·cases i with
   | zero=>simp at hi;obtain ⟨rfl,rfl⟩:=hi;simp only [Nat.add_zero];rw [hnn,hev];exact ⟨rfl,h2⟩
   | succ i=>have:=g3 i kk' d' (by simpa using hi);rwa [show nn+1+i=nn+(i+1) by omega] at this
theorem Told.append {e':Nat->Int} {nn:Nat} {ds ds':Defs}:Told T e' nn (ds++ds')↔Told T e' nn ds/\Told T e' (nn+ds.length) ds':=by
 constructor
 ·intro h
  refine ⟨fun i kk d hi=>h i kk d ?_,fun i kk d hi=>?_⟩
  ·have hl:=(List.getElem?_eq_some_iff.1 hi).1
   rw [List.getElem?_append_left hl];exact hi
  ·have:=h (ds.length+i) kk d (by rw [List.getElem?_append_right (by omega)];simpa using hi)
   rwa [<- Nat.add_assoc] at this
 ·rintro ⟨h1,h2⟩ i kk d hi
  by_cases hl:i<ds.length
  ·rw [List.getElem?_append_left hl] at hi;exact h1 i kk d hi
  ·rw [List.getElem?_append_right (by omega)] at hi
   have:=h2 _ kk d hi
   rwa [show nn+ds.length+(i-ds.length)=nn+i by omega] at this
theorem gen_append:∀ (ds:Defs) (e:Nat->Int) (nn:Nat) (ds':Defs),GenOk T e nn ds->(∀ e',(∀ i,i<nn->e' i=e i)->Told T e' nn ds->GenOk T e' (nn+ds.length) ds')->GenOk T e nn (ds++ds'):=by
 intro ds
 induction ds with
 | nil=>intro e nn ds' _ h;exact h e (fun _ _=>rfl) (fun i kk d h=>by simp at h)
 | cons x ds ih =>
  intro e nn ds' hg h
  obtain ⟨kk,d⟩:=x
  obtain ⟨h1,h2,h3⟩:=hg
  refine ⟨h1,h2,ih _ _ _ h3 fun e' he ht=>?_⟩
  have hlow:∀ i,i<nn->e' i=e i:=fun i hi=>by rw [he i (by omega)];simp [upd];omega
  have hev:d.ev T e'=d.ev T e:=D.ev_congr h1 hlow
  have hnn:e' nn=d.ev T e:=by rw [he nn (by omega)];simp [upd]
  have:=h e' hlow fun i kk' d' hi=>by
   cases i with
   | zero=>simp at hi;obtain ⟨rfl,rfl⟩:=hi;simp only [Nat.add_zero];rw [hnn,hev];exact ⟨rfl,h2⟩
   | succ i=>have:=ht i kk' d' (by simpa using hi);rwa [show nn+1+i=nn+(i+1) by omega] at this
  simpa [Nat.add_assoc,Nat.add_comm 1] using this
theorem mk_gen {e:Nat->Int} {nn:Nat} {kk:KK} {d:D} (h1:d.ok nn) (h2:kk.has (d.ev T e)):GenOk T e nn (mk nn kk d).1:=by
 unfold mk
 split
 ·trivial
 ·exact ⟨h1,h2,trivial⟩
end
theorem limb_step (x r:Int) (h0:0<=x) (h1:x<18446744073709551616) (j:Nat) :
  (x+18446744073709551616*r)/p64 (j+1)=r/p64 j:=by
 have e:p64 (j+1)=18446744073709551616*p64 j:=by
  unfold p64;rw [Nat.mul_add,Nat.pow_add,Nat.mul_comm];simp
 rw [e,<- Int.ediv_ediv_of_nonneg (by omega)]
 congr 1
 omega
theorem limb_zero (x r:Int) (h0:0<=x) (h1:x<18446744073709551616):(x+18446744073709551616*r)/p64 0%18446744073709551616=x:=by
 have e:p64 0=1:=rfl
 rw [e,Int.ediv_one]
 omega
theorem limbs_join {a b c d e f:Int} (ha:0<=a/\a<18446744073709551616) (hb:0<=b/\b<18446744073709551616) (hc:0<=c/\c<18446744073709551616)
  (hd:0<=d/\d<18446744073709551616) (he:0<=e/\e<18446744073709551616) (hf:0<=f/\f<18446744073709551616) :
  limbs (joinE [a,b,c,d,e,f])=[.int .u64 a,.int .u64 b,.int .u64 c,.int .u64 d,.int .u64 e,.int .u64 f]/\0<=joinE [a,b,c,d,e,f]/\joinE [a,b,c,d,e,f]<N384:=by
 refine ⟨?_,?_⟩
 ·have hr:List.range 6=[0,1,2,3,4,5]:=rfl
  simp only [limbs,hr,List.map_cons,List.map_nil,joinE]
  rw [limb_zero a _ ha.1 ha.2,limb_step a _ ha.1 ha.2 0,limb_zero b _ hb.1 hb.2,limb_step a _ ha.1 ha.2 1,limb_step b _ hb.1 hb.2 0,limb_zero c _ hc.1 hc.2,
   limb_step a _ ha.1 ha.2 2,limb_step b _ hb.1 hb.2 1,limb_step c _ hc.1 hc.2 0,limb_zero d _ hd.1 hd.2,
   limb_step a _ ha.1 ha.2 3,limb_step b _ hb.1 hb.2 2,limb_step c _ hc.1 hc.2 1,limb_step d _ hd.1 hd.2 0,limb_zero e _ he.1 he.2,
   limb_step a _ ha.1 ha.2 4,limb_step b _ hb.1 hb.2 3,limb_step c _ hc.1 hc.2 2,limb_step d _ hd.1 hd.2 1,limb_step e _ he.1 he.2 0,limb_zero f _ hf.1 hf.2]
 ·simp only [joinE,N384]
  omega
theorem LK.hasL.sub {k:LK} {l:List Int} (h:k.hasL l) (hi lo:Nat):k.hasL ((l.take hi).drop lo) :=
 ⟨by have:=h.1;simp only [List.length_drop,List.length_take];omega,fun z hz=>h.2 z (List.mem_of_mem_take (List.mem_of_mem_drop hz))⟩
theorem has_u64 {x:Int} (h:has .u64 x):0<=x/\x<18446744073709551616:=by simp only [has,lo,hi] at h;omega
section
variable {T:List K} {m:M} {nv:Nat} {al:Nat->Bool}
theorem cEq_ok {c c':C} {v:Value} (h:cEq c c'=true) (hv:c'.rel m nv al v):v=cstV c:=by
 unfold cEq at h
 split at h <;> simp only [C.rel] at hv
 ·simp at h;obtain ⟨rfl,rfl⟩:=h;exact hv.2.2
 ·simp at h;subst h;exact hv.2.2
 ·simp at h;subst h;rw [hv.2];rfl
 ·have h:=of_decide_eq_true h;subst h;exact hv
 all_goals (first | exact hv | cases h)
theorem uni_ok {as:List A} {n:Nat} (h:uni as=some n):as=[.limb n 0,.limb n 1,.limb n 2,.limb n 3,.limb n 4,.limb n 5]:=by
 unfold uni at h
 split at h
 ·split at h
  ·rename_i hh;simp at hh h;obtain ⟨⟨⟨⟨rfl,rfl⟩,rfl⟩,rfl⟩,rfl⟩:=hh;rw [h]
  ·cases h
 ·cases h
theorem lits_ok (e:Nat->Int):∀ (as:List A) (l:List Int),mapO A.lit? as=some l->as.map (·.ev e)=l:=by
 intro as
 induction as with
 | nil=>intro l hm;simp [mapO] at hm;subst hm;rfl
 | cons a as ih =>
  intro l hm
  unfold mapO at hm
  split at hm
  ·cases hm
  ·rename_i y hy
   split at hm
   ·cases hm
   ·rename_i ys hys
    cases hm
    simp only [List.map_cons,ih _ hys]
    congr 1
    cases a <;> simp [A.lit?] at hy
    subst hy;rfl
theorem litsJ_ok {as:List A} {n:Int} (h:litsJ as=some n) (e:Nat->Int):joinE (as.map (·.ev e))=n:=by
 unfold litsJ at h
 cases hm:mapO A.lit? as with
 | none=>simp [hm] at h
 | some l=>simp [hm] at h;rw [lits_ok e as l hm,h]
theorem numA_ok {nn:Nat} {a b c d e f:A} {v0 v1 v2 v3 v4 v5:Value}
  (h0:C.rel m nv al (.int .u64 a) v0) (h1:C.rel m nv al (.int .u64 b) v1) (h2:C.rel m nv al (.int .u64 c) v2) (h3:C.rel m nv al (.int .u64 d) v3) (h4:C.rel m nv al (.int .u64 e) v4) (h5:C.rel m nv al (.int .u64 f) v5) :
  (nv<=nn->GenOk T m.env nn (numA nn [a,b,c,d,e,f]).1/\(numA nn [a,b,c,d,e,f]).2.ok (nn+(numA nn [a,b,c,d,e,f]).1.length)) /\
  ∀ e',(∀ i,i<nv->e' i=m.env i)->Told T e' nn (numA nn [a,b,c,d,e,f]).1 ->
   limbs ((numA nn [a,b,c,d,e,f]).2.ev e')=[v0,v1,v2,v3,v4,v5]/\0<=(numA nn [a,b,c,d,e,f]).2.ev e'/\(numA nn [a,b,c,d,e,f]).2.ev e'<N384:=by
 have hj:=limbs_join (has_u64 h0.2.1) (has_u64 h1.2.1) (has_u64 h2.2.1) (has_u64 h3.2.1) (has_u64 h4.2.1) (has_u64 h5.2.1)
 rw [<- h0.2.2,<- h1.2.2,<- h2.2.2,<- h3.2.2,<- h4.2.2,<- h5.2.2] at hj
 unfold numA
 cases hu:uni [a,b,c,d,e,f] with
 | some n =>
  have hu':=uni_ok hu
  simp only [List.cons.injEq,and_true] at hu'
  obtain ⟨rfl,rfl,rfl,rfl,rfl,rfl⟩:=hu'
  have hlt:n<nv:=h0.1.1
  refine ⟨fun hn=>⟨trivial,by simp only [A.ok];omega⟩,fun e' he _=>?_⟩
  have hen:e' n=m.env n:=he n hlt
  refine ⟨?_,?_⟩
  ·rw [h0.2.2,h1.2.2,h2.2.2,h3.2.2,h4.2.2,h5.2.2]
   have hv:(A.var n).ev e'=m.env n:=hen
   rw [hv]
   rfl
  ·simp only [A.ev,hen];exact h0.1.2
 | none =>
  simp only
  cases hl:litsJ [a,b,c,d,e,f] with
  | some n =>
   have:=litsJ_ok hl m.env
   simp only [List.map_cons,List.map_nil] at this
   rw [this] at hj
   exact ⟨fun _=>⟨trivial,trivial⟩,fun e' _ _=>hj⟩
  | none =>
   simp only
   have hok:∀ x∈[a,b,c,d,e,f],x.ok nv:=by
    intro x hx
    simp only [List.mem_cons,List.not_mem_nil,or_false] at hx
    rcases hx with rfl | rfl | rfl | rfl | rfl | rfl
    ·exact h0.1.1
    ·exact h1.1.1
    ·exact h2.1.1
    ·exact h3.1.1
    ·exact h4.1.1
    ·exact h5.1.1
   refine ⟨fun hn=>⟨⟨fun x hx=>A.ok_mono (hok x hx) hn,hj.2,trivial⟩,by simp [A.ok]⟩,fun e' he ht=>?_⟩
   have h6:=(ht 0 _ _ rfl).1
   simp only [Nat.add_zero] at h6
   simp only [A.ev]
   rw [h6,D.ev_congr (d:=.join [a,b,c,d,e,f]) hok he]
   exact hj
theorem takeLs_ok:∀ (ls:List L) (cs:List C) (nn:Nat) (ds:Defs) (as:List A),takeLs nn ls cs=some (ds,as)->∀ (m:M) (nv:Nat) (vs:List Value),Rels m nv al cs vs ->
  (nv<=nn->GenOk T m.env nn ds/\(∀ a∈as,a.ok (nn+ds.length)))/\as.length=lcount ls /\
  ∀ e',(∀ i,i<nv->e' i=m.env i)->Told T e' nn ds->lvals ls (as.map (·.ev e'))=vs/\lhas ls (as.map (·.ev e')):=by
 intro ls
 induction ls with
 | nil =>
  intro cs nn ds as h m nv vs hr
  unfold takeLs at h
  split at h
  ·cases h
   match vs,hr with
   | [],_=>exact ⟨fun _=>⟨trivial,by simp⟩,rfl,fun e' _ _=>⟨rfl,trivial⟩⟩
  all_goals (rename_i hh;first | (exact absurd rfl hh) | (simp_all;done) | cases h)
 | cons l ls ih =>
  intro cs nn ds as h m nv vs hr
  unfold takeLs at h
  split at h
  ·rename_i hc;cases hc
  ·rename_i c ls' c' cs' hcl
   simp only [List.cons.injEq] at hcl
   obtain ⟨rfl,rfl⟩:=hcl
   split at h
   ·rename_i hce
    match vs,hr with
    | v::vs,hr =>
     obtain ⟨g1,g3,g4⟩:=ih _ _ _ _ h m nv vs hr.2
     refine ⟨g1,by simp [lcount,L.n,g3],fun e' he ht=>?_⟩
     obtain ⟨g5,g6⟩:=g4 e' he ht
     exact ⟨by simp only [lvals];rw [g5,<- cEq_ok hce hr.1],g6⟩
   ·cases h
  ·rename_i k ls' k' a cs' hcl
   simp only [List.cons.injEq] at hcl
   obtain ⟨rfl,rfl⟩:=hcl
   split at h
   ·rename_i hk
    simp at hk
    subst hk
    cases hq:takeLs nn ls cs' with
    | none=>simp [hq] at h
    | some q =>
     obtain ⟨q1,q2⟩:=q
     simp [hq] at h
     obtain ⟨rfl,rfl⟩:=h
     match vs,hr with
     | v::vs,hr =>
      obtain ⟨g1,g3,g4⟩:=ih _ _ _ _ hq m nv vs hr.2
      refine ⟨fun hn=>⟨(g1 hn).1,?_⟩,by simp [lcount,L.n,g3,Nat.add_comm],fun e' he ht=>?_⟩
      ·intro x hx
       rcases List.mem_cons.1 hx with rfl | hx
       ·exact A.ok_mono hr.1.1.1 (by omega)
       ·exact (g1 hn).2 x hx
      ·obtain ⟨g5,g6⟩:=g4 e' he ht
       have hev:a.ev e'=a.ev m.env:=A.ev_congr hr.1.1.1 he
       simp only [List.map_cons,hev]
       exact ⟨by simp only [lvals];rw [g5,hr.1.2.2],hr.1.2.1,g6⟩
   ·cases h
  ·rename_i ls' a cs' hcl
   simp only [List.cons.injEq] at hcl
   obtain ⟨rfl,rfl⟩:=hcl
   have h':(takeLs nn ls cs').map (fun r=>(r.1,a::r.2))=some (ds,as):=by
    split at h
    ·split at h
     ·exact h
     ·cases h
    ·exact h
   clear h
   cases hq:takeLs nn ls cs' with
   | none=>simp [hq] at h'
   | some q =>
    obtain ⟨q1,q2⟩:=q
    simp [hq] at h'
    obtain ⟨rfl,rfl⟩:=h'
    match vs,hr with
    | v::vs,hr =>
     obtain ⟨g1,g3,g4⟩:=ih _ _ _ _ hq m nv vs hr.2
     refine ⟨fun hn=>⟨(g1 hn).1,?_⟩,by simp [lcount,L.n,g3,Nat.add_comm],fun e' he ht=>?_⟩
     ·intro x hx
      rcases List.mem_cons.1 hx with rfl | hx
      ·exact A.ok_mono hr.1.1.1 (by omega)
      ·exact (g1 hn).2 x hx
     ·obtain ⟨g5,g6⟩:=g4 e' he ht
      have hev:a.ev e'=a.ev m.env:=A.ev_congr hr.1.1.1 he
      simp only [List.map_cons,hev]
      exact ⟨by simp only [lvals];rw [g5,hr.1.2.2],hr.1.2.1,g6⟩
  ·rename_i ls' a b c d e f cs' hcl
   simp only [List.cons.injEq] at hcl
   obtain ⟨rfl,rfl⟩:=hcl
   split at h
   ·cases h
   ·rename_i as6 h6
    split at h
    ·cases h
    ·rename_i r hq
     obtain ⟨q1,q2⟩:=r
     simp at h
     obtain ⟨rfl,rfl⟩:=h
     unfold sixA at h6
     split at h6
     ·rename_i a' b' c' d' e' f' hsix
      cases h6
      simp only [List.cons.injEq,and_true] at hsix
      obtain ⟨rfl,rfl,rfl,rfl,rfl,rfl⟩:=hsix
      match vs,hr with
      | v0::v1::v2::v3::v4::v5::vs,hr =>
       obtain ⟨r0,r1,r2,r3,r4,r5,hr⟩:=hr
       obtain ⟨n1,n3⟩:=numA_ok (T:=T) (nn:=nn) r0 r1 r2 r3 r4 r5
       obtain ⟨g1,g3,g4⟩:=ih _ _ _ _ hq m nv vs hr
       refine ⟨fun hn=>⟨gen_append _ _ _ _ (n1 hn).1 fun e1 he1 ht1=>?_,?_⟩,by simp [lcount,L.n,g3,Nat.add_comm],fun e2 he2 ht2=>?_⟩
       ·have hx:MExt m nv al {m with env:=e1 } nv al:=⟨fun i hi=>he1 i (by omega),fun _ _=>rfl,rfl,fun _ _=>rfl,Nat.le_refl _,fun _ h=>h⟩
        exact ((ih _ _ _ _ hq {m with env:=e1 } nv vs (hr.mono hx)).1 (by omega)).1
       ·intro x hx
        rcases List.mem_cons.1 hx with rfl | hx
        ·exact A.ok_mono (n1 hn).2 (by simp)
        ·exact A.ok_mono ((g1 (by omega)).2 x hx) (by simp;omega)
       ·rw [Told.append] at ht2
        obtain ⟨n4,n5⟩:=n3 e2 he2 ht2.1
        obtain ⟨g5,g6⟩:=g4 e2 he2 ht2.2
        simp only [List.map_cons,lvals,lhas,g5,n4]
        exact ⟨rfl,n5,g6⟩
     ·cases h6
  ·cases h
end
section
variable {T:List K} {w0:World} {Z:St} {a:Act} {w:World}
theorem LL.sz_pos (l:LL):0<l.sz:=by cases l <;> simp [LL.sz]
theorem sz_pos (k:LK):0<k.sz:=by
 cases k with
 | num=>simp [LK.sz]
 | int k=>simp [LK.sz]
 | tup l ls=>have:=l.sz_pos;simp only [LK.sz];omega
theorem leafs_vals:∀ (ls:List LL) (xs:List Int),lhas (ls.map LL.leaf) xs->lvals (ls.map LL.leaf) xs=llVals ls xs/\llHas ls xs
 | [],[],_=>⟨rfl,trivial⟩
 | [],_::_,h=>h.elim
 | l::ls,[],h=>by cases l <;> exact h.elim
 | l::ls,x::xs,h=>by
  cases l with
  | num =>
   obtain ⟨i1,i2⟩:=leafs_vals ls xs h.2
   exact ⟨by show limbs x++lvals (ls.map LL.leaf) xs=limbs x++llVals ls xs;rw [i1],h.1,i2⟩
  | int k =>
   obtain ⟨i1,i2⟩:=leafs_vals ls xs h.2
   exact ⟨by show Value.int k x::lvals (ls.map LL.leaf) xs=[Value.int k x]++llVals ls xs;rw [i1];rfl,h.1,i2⟩
  | bit =>
   obtain ⟨i1,i2⟩:=leafs_vals ls xs h.2
   exact ⟨by show Value.bool (decide (x≠0))::lvals (ls.map LL.leaf) xs=[Value.bool (decide (x≠0))]++llVals ls xs;rw [i1];rfl,h.1,i2⟩
theorem takeK_ok {k:LK} {nn:Nat} {cs:List C} {ds:Defs} {y:A} {al:Nat->Bool} (h:takeK nn k cs=some (ds,y)) (m:M) (nv:Nat) (vs:List Value) (hr:Rels m nv al cs vs) :
  (nv<=nn->GenOk T m.env nn ds/\y.ok (nn+ds.length))/\∀ e',(∀ i,i<nv->e' i=m.env i)->Told T e' nn ds->k.vals (y.ev e')=vs/\k.has (y.ev e'):=by
 have one:∀ {r:Option (Defs×List A)},oneA r=some (ds,y)->r=some (ds,[y]):=fun {r} h=>by
  unfold oneA at h
  split at h
  ·cases h;rfl
  ·cases h
 cases k with
 | num =>
  obtain ⟨g1,_,g4⟩:=takeLs_ok (T:=T) _ _ _ _ _ (one h) m nv vs hr
  refine ⟨fun hn=>⟨(g1 hn).1,(g1 hn).2 y (by simp)⟩,fun e' he ht=>?_⟩
  obtain ⟨g5,g6⟩:=g4 e' he ht
  exact ⟨by rw [<- g5];simp [lvals,LK.vals],g6.1⟩
 | int k =>
  obtain ⟨g1,_,g4⟩:=takeLs_ok (T:=T) _ _ _ _ _ (one h) m nv vs hr
  refine ⟨fun hn=>⟨(g1 hn).1,(g1 hn).2 y (by simp)⟩,fun e' he ht=>?_⟩
  obtain ⟨g5,g6⟩:=g4 e' he ht
  exact ⟨by rw [<- g5];rfl,g6.1⟩
 | tup l ls =>
  unfold takeK at h
  simp only at h
  split at h
  ·rename_i ds0 as htk
   cases h
   obtain ⟨g1,_,g4⟩:=takeLs_ok (T:=T) _ _ _ _ _ htk m nv vs hr
   refine ⟨fun hn=>⟨gen_append _ _ _ _ (g1 hn).1 fun e1 he1 ht1=>⟨⟨trivial,(g1 hn).2⟩,trivial,trivial⟩,?_⟩,fun e' he ht=>?_⟩
   ·show nn+ds0.length<nn+(ds0++_).length
    simp
   ·obtain ⟨t1,t2⟩:=Told.append.1 ht
    have h0:e' (nn+ds0.length+0)=enc (dec 0++as.map (·.ev e')):=(t2 0 _ _ rfl).1
    rw [Nat.add_zero,dec_zero,List.nil_append] at h0
    obtain ⟨g5,g6⟩:=g4 e' he t1
    obtain ⟨g7,g8⟩:=leafs_vals (l::ls) _ g6
    show (LK.tup l ls).vals (e' (nn+ds0.length))=vs/\(LK.tup l ls).has (e' (nn+ds0.length))
    rw [h0]
    show llVals (l::ls) (dec (enc (as.map (·.ev e'))))=vs/\llHas (l::ls) (dec (enc (as.map (·.ev e'))))
    rw [dec_enc]
    exact ⟨by rw [<- g5,<- g7],g8⟩
  ·cases h
theorem Rels_split {m:M} {nv:Nat} {al:Nat->Bool}:∀ (n:Nat) {cs:List C} {vs:List Value},Rels m nv al cs vs->Rels m nv al (cs.take n) (vs.take n)/\Rels m nv al (cs.drop n) (vs.drop n)
 | 0,_,_,h=>⟨trivial,h⟩
 | n+1,[],[],_=>⟨trivial,trivial⟩
 | n+1,[],_::_,h=>h.elim
 | n+1,_::_,[],h=>h.elim
 | n+1,_::_,_::_,h=>⟨⟨h.1,(Rels_split n h.2).1⟩,(Rels_split n h.2).2⟩
theorem takeNK_ok {k:LK} {al:Nat->Bool}:∀ (n nn:Nat) (cs:List C) (ds:Defs) (as:List A),takeNK k nn n cs=some (ds,as)->∀ (m:M) (nv:Nat) (vs:List Value),Rels m nv al cs vs ->
  (nv<=nn->GenOk T m.env nn ds/\(∀ a∈as,a.ok (nn+ds.length)))/\as.length=n /\
  ∀ e',(∀ i,i<nv->e' i=m.env i)->Told T e' nn ds->flat k (as.map (·.ev e'))=vs/\∀ x∈as.map (·.ev e'),k.has x
 | 0,nn,cs,ds,as,h,m,nv,vs,hr=>by
  unfold takeNK at h
  split at h
  ·cases h
   match vs,hr with
   | [],_=>exact ⟨fun _=>⟨trivial,by simp⟩,rfl,fun e' _ _=>⟨rfl,by simp⟩⟩
  ·cases h
 | n+1,nn,cs,ds,as,h,m,nv,vs,hr=>by
  unfold takeNK at h
  split at h
  ·cases h
  ·rename_i d hd
   split at h
   ·cases h
   ·rename_i r hq
    cases h
    obtain ⟨q1,q2⟩:=Rels_split k.sz hr
    obtain ⟨n1,n3⟩:=takeK_ok (T:=T) (ds:=d.1) (y:=d.2) hd m nv _ q1
    obtain ⟨g1,g3,g4⟩:=takeNK_ok n _ _ r.1 r.2 hq m nv _ q2
    refine ⟨fun hn=>⟨gen_append _ _ _ _ (n1 hn).1 fun e1 he1 ht1=>?_,?_⟩,by rw [List.length_cons,g3],fun e2 he2 ht2=>?_⟩
    ·have hx:MExt m nv al {m with env:=e1 } nv al:=⟨fun i hi=>he1 i (by omega),fun _ _=>rfl,rfl,fun _ _=>rfl,Nat.le_refl _,fun _ h=>h⟩
     exact ((takeNK_ok n _ _ r.1 r.2 hq {m with env:=e1 } nv _ (q2.mono hx)).1 (by omega)).1
    ·intro x hx
     rcases List.mem_cons.1 hx with rfl | hx
     ·exact A.ok_mono (n1 hn).2 (by simp)
     ·exact A.ok_mono ((g1 (by omega)).2 x hx) (by simp;omega)
    ·rw [Told.append] at ht2
     obtain ⟨n4,n5⟩:=n3 e2 he2 ht2.1
     obtain ⟨g5,g6⟩:=g4 e2 he2 ht2.2
     refine ⟨?_,?_⟩
     ·show k.vals (d.2.ev e2)++flat k (r.2.map (·.ev e2))=vs
      rw [n4,g5,List.take_append_drop]
     ·intro x hx
      rcases List.mem_cons.1 hx with rfl | hx
      ·exact n5
      ·exact g6 x hx
theorem cellAdd_lt {w:World} {ad:Addr} {n:Nat} {v:Value} (h:w.cell? (ad.add n)=some v):ad.block<w.heap.size:=by
 have hb:(ad.add n).block=ad.block:=by unfold Addr.add;split <;> rfl
 unfold World.cell? at h
 rw [hb] at h
 rcases Nat.lt_or_ge ad.block w.heap.size with h' | h'
 ·exact h'
 ·rw [Array.getElem?_eq_none h'] at h;cases h
theorem takeSh_ok {s:Sh} {v:V} {nn:Nat} {ds:Defs} {as:List A} (h:takeSh Z nn s v=some (ds,as)) {m:M} (hrep:Rep w0 m Z a w) {u:Value} (hu:v.rel m Z.nv Z.al u) :
  (Z.nv<=nn->GenOk T m.env nn ds/\(∀ a∈as,a.ok (nn+ds.length)))/\as.length=lcount s.leaves /\
  ∀ e',(∀ i,i<Z.nv->e' i=m.env i)->Told T e' nn ds->lhas s.leaves (as.map (·.ev e'))/\s.rel w (as.map (·.ev e')) u:=by
 unfold takeSh at h
 split at h
 ·rename_i l c
  obtain ⟨g1,g3,g4⟩:=takeLs_ok (T:=T) _ _ _ _ _ h m Z.nv [u] ⟨hu,trivial⟩
  refine ⟨g1,g3,fun e' he ht=>?_⟩
  obtain ⟨g5,g6⟩:=g4 e' he ht
  exact ⟨g6,g5.symm⟩
 ·rename_i ls cs
  obtain ⟨vs,rfl,hr⟩:=hu
  obtain ⟨g1,g3,g4⟩:=takeLs_ok (T:=T) _ _ _ _ _ h m Z.nv vs hr
  refine ⟨g1,g3,fun e' he ht=>?_⟩
  obtain ⟨g5,g6⟩:=g4 e' he ht
  exact ⟨g6,by simp only [Sh.rel];rw [g5]⟩
 ·rename_i ls id off
  split at h
  ·cases h
  ·rename_i b hb
   obtain ⟨vs,hl,hr,hc⟩:=hrep.reads hb off ((b.cells.drop off).take (ls.foldl (fun n l=>n+(match l with | .num=>6 | .lst _=>0 | _=>1)) 0)).length (by rw [List.length_take];omega)
   have e0:(b.cells.drop off).take ((b.cells.drop off).take (ls.foldl (fun n l=>n+(match l with | .num=>6 | .lst _=>0 | _=>1)) 0)).length=(b.cells.drop off).take (ls.foldl (fun n l=>n+(match l with | .num=>6 | .lst _=>0 | _=>1)) 0):=by
    rw [List.length_take,List.take_eq_take_iff];omega
   rw [e0] at hr
   obtain ⟨g1,g3,g4⟩:=takeLs_ok (T:=T) _ _ _ _ _ h m Z.nv vs hr
   refine ⟨g1,g3,fun e' he ht=>?_⟩
   obtain ⟨g5,g6⟩:=g4 e' he ht
   refine ⟨g6,(m.rho id).1,(m.rho id).2+off,hu.2,fun j x hj=>?_⟩
   rw [g5] at hj
   have:=hc j x hj
   rw [at_add] at this
   simpa [M.at,Nat.add_assoc] using this
 ·rename_i k id
  split at h
  ·rename_i r hr
   split at h
   ·rename_i hk
    cases h
    have hk:=LKeq_ok hk
    subst hk
    have hu:Z.al id=true/\u=m.sv id/\u.oneCell'=true:=hu
    obtain ⟨q1,q2,_,_,q3⟩:=hrep.row_ok hr
    refine ⟨fun hn=>⟨trivial,fun x hx=>?_⟩,rfl,fun e' he _=>?_⟩
    ·rw [List.mem_singleton.1 hx];exact A.ok_mono q2.1 (by simpa using hn)
    ·simp only [List.map_cons,List.map_nil,Sh.leaves,lhas,Sh.rel,List.headD_cons]
     rw [A.ev_congr q2.1 he,hu.2.1]
     exact ⟨⟨q3.1,trivial⟩,q3.ro hrep.below.size⟩
   ·cases h
  ·cases h
 ·rename_i k
  cases h
  have hu:u=.slice none 0 0:=hu
  refine ⟨fun _=>⟨trivial,fun x hx=>by rw [List.mem_singleton.1 hx];trivial⟩,rfl,fun e' _ _=>?_⟩
  simp only [List.map_cons,List.map_nil,Sh.leaves,lhas,Sh.rel,List.headD_cons,A.ev,dec_zero]
  exact ⟨⟨⟨by simp,by simp⟩,trivial⟩,.inl ⟨hu,rfl⟩⟩
 ·rename_i k id lo hi k'
  split at h
  ·rename_i r hr
   split at h
   ·rename_i hk
    simp only [Bool.and_eq_true] at hk
    cases h
    have hk1:=LKeq_ok hk.1
    have hk2:=LKeq_ok hk.2
    subst hk1
    subst hk2
    obtain ⟨b1,b2,b3,b4,b5,b6⟩:=(show C.rel m Z.nv Z.al (.slv id lo hi r.k) u from hu)
    obtain ⟨q1,q2,q5,q6,q3⟩:=hrep.row_ok hr
    rw [q3.lenV] at b4
    have ro:=(q3.ro hrep.below.size).part (lo:=(lo.ev m.env).toNat) (hi:=(hi.ev m.env).toNat) (by omega) (by omega)
    rw [<- b5] at ro
    have hL:=q3.1.sub (hi.ev m.env).toNat (lo.ev m.env).toNat
    refine ⟨fun hn=>⟨⟨⟨A.ok_mono q2.1 hn,A.ok_mono b2.1 hn,A.ok_mono b3.1 hn⟩,by simp only [KK.has,D.ev,dec_enc];exact hL,trivial⟩,fun x hx=>by rw [List.mem_singleton.1 hx];show nn<nn+1;omega⟩,rfl,fun e' he ht=>?_⟩
    have h0:=(ht 0 _ _ rfl).1
    simp only [Nat.add_zero,D.ev] at h0
    rw [A.ev_congr q2.1 he,A.ev_congr b2.1 he,A.ev_congr b3.1 he] at h0
    simp only [List.map_cons,List.map_nil,Sh.leaves,lhas,Sh.rel,List.headD_cons,A.ev,h0,dec_enc]
    exact ⟨⟨hL,trivial⟩,ro⟩
   ·cases h
  ·cases h
 ·rename_i k id
  split at h
  ·rename_i r hr
   split at h
   ·rename_i hk
    simp only [Bool.and_eq_true] at hk
    cases h
    have hk1:=LKeq_ok hk.1
    subst hk1
    have hu:Z.al id=true/\u=m.sv id/\u.oneCell'=true:=hu
    obtain ⟨q1,q2,q5,q6,q3⟩:=hrep.row_ok hr
    have hb:=q3.1.1
    refine ⟨fun hn=>⟨⟨A.ok_mono q5.1 hn,by simp only [KK.has,D.ev,q6,has,lo,hi];omega,trivial⟩,fun x hx=>?_⟩,rfl,fun e' he ht=>?_⟩
    ·simp only [List.mem_cons,List.not_mem_nil,or_false] at hx
     rcases hx with rfl | rfl
     ·exact A.ok_mono q2.1 (by omega)
     ·show nn<nn+1;omega
    ·have h0:=(ht 0 _ _ rfl).1
     simp only [Nat.add_zero,D.ev] at h0
     rw [A.ev_congr q5.1 he,q6] at h0
     obtain ⟨bb,cap,hsv⟩:=q3.len
     have hv0:A.ev e' (.var nn)=((dec (r.x.ev m.env)).length:Int):=h0
     have hx0:A.ev e' r.x=A.ev m.env r.x:=A.ev_congr q2.1 he
     show lhas [.lst r.k,.int .i64] [A.ev e' r.x,A.ev e' (.var nn)]/\lentAt r.k (fun v'=>RoRow w w r.k v' (dec (A.ev e' r.x))) (dec (A.ev e' r.x)) (A.ev e' (.var nn)) u
     rw [hx0,hv0]
     refine ⟨⟨q3.1,by simp only [has,lo,hi];omega,trivial⟩,m.sv id,q3.ro hrep.below.size,q3.2.2 hk.2,by omega,?_⟩
     rw [hu.2.1,hsv,subV_zero,Int.toNat_natCast]
   ·cases h
  ·cases h
 ·rename_i k id lo hi k'
  split at h
  ·rename_i r hr
   split at h
   ·rename_i hk
    simp only [Bool.and_eq_true] at hk
    obtain ⟨⟨⟨hk1,hk2⟩,hk3⟩,hk4⟩:=hk
    cases h
    have hk1:=LKeq_ok hk1
    have hk2:=LKeq_ok hk2
    subst hk1
    subst hk2
    have hz0:=isZ_ok hk4
    subst hz0
    obtain ⟨b1,b2,b3,b4,b5,b6⟩:=(show C.rel m Z.nv Z.al (.slv id (.lit 0) hi r.k) u from hu)
    obtain ⟨q1,q2,q5,q6,q3⟩:=hrep.row_ok hr
    rw [q3.lenV] at b4
    have c1:0<=hi.ev m.env:=b4.2.1
    have c2:hi.ev m.env<=((dec (r.x.ev m.env)).length:Int):=b4.2.2.1
    have c3:=b4.2.2.2
    refine ⟨fun hn=>⟨trivial,fun x hx=>?_⟩,rfl,fun e' he ht=>?_⟩
    ·simp only [List.mem_cons,List.not_mem_nil,or_false] at hx
     rcases hx with rfl | rfl
     ·exact A.ok_mono q2.1 (by simpa using hn)
     ·exact A.ok_mono b3.1 (by simpa using hn)
    ·have hx0:A.ev e' r.x=A.ev m.env r.x:=A.ev_congr q2.1 he
     have hv0:A.ev e' hi=A.ev m.env hi:=A.ev_congr b3.1 he
     show lhas [.lst r.k,.int .i64] [A.ev e' r.x,A.ev e' hi]/\lentAt r.k (fun v'=>RoRow w w r.k v' (dec (A.ev e' r.x))) (dec (A.ev e' r.x)) (A.ev e' hi) u
     rw [hx0,hv0]
     exact ⟨⟨q3.1,by simp only [has,lo,Sx.hi];omega,trivial⟩,m.sv id,q3.ro hrep.below.size,q3.2.2 hk3,⟨c1,c2⟩,b5⟩
   ·cases h
  ·cases h
 ·rename_i k
  cases h
  have hu:u=.slice none 0 0:=hu
  refine ⟨fun _=>⟨trivial,fun x hx=>?_⟩,rfl,fun e' _ _=>?_⟩
  ·simp only [List.mem_cons,List.not_mem_nil,or_false] at hx
   rcases hx with rfl | rfl <;> trivial
  ·simp only [List.map_cons,List.map_nil,Sh.leaves,lhas,Sh.rel,List.headD_cons,A.ev,dec_zero]
   exact ⟨⟨⟨by simp,by simp⟩,⟨by simp [has,lo,hi],trivial⟩⟩,.slice none 0 0,.inl ⟨rfl,rfl⟩,rfl,by simp,by rw [hu];rfl⟩
 ·rename_i k id off n c
  split at h
  ·cases h
  ·rename_i b hb
   split at h
   ·rename_i hcond
    simp only [Bool.and_eq_true,decide_eq_true_eq] at hcond
    obtain ⟨⟨⟨hn0,hnc⟩,hn2⟩,hlen⟩:=hcond
    split at h
    ·rename_i ds' as' htk
     cases h
     obtain ⟨vs,hvl,hr,hc⟩:=hrep.reads hb off (n*k.sz) hlen
     have hu:Z.al id=true/\u=.slice (some (m.at id off)) n c:=hu
     obtain ⟨g1,g3,g4⟩:=takeNK_ok (T:=T) _ _ _ _ _ htk m Z.nv vs hr
     have fin:∀ e',(∀ i,i<Z.nv->e' i=m.env i)->Told T e' nn ds'->k.hasL (as'.map (·.ev e'))/\RoRow w w k u (as'.map (·.ev e')):=fun e' he ht=>by
      obtain ⟨v1,v2⟩:=g4 e' he ht
      have hl:(as'.map (·.ev e')).length=n:=by rw [List.length_map,g3]
      have f1:=v1.symm
      refine ⟨⟨by rw [hl];omega,v2⟩,.inr ⟨m.at id off,c,by rw [hl];exact hu.2,?_,by rw [hl];exact hnc,fun j x hj=>hc j x (by rw [f1];exact hj)⟩⟩
      have hpos:0<vs.length:=by
       rw [hvl]
       exact Nat.mul_pos hn0 (sz_pos k)
      have h0:=hc 0 _ (List.getElem?_eq_getElem hpos)
      exact cellAdd_lt h0
     refine ⟨fun hn=>⟨gen_append _ _ _ _ (g1 hn).1 fun e1 he1 ht1=>⟨⟨trivial,(g1 hn).2⟩,?_,trivial⟩,?_⟩,rfl,fun e' he ht=>?_⟩
     ·simp only [KK.has,D.ev,A.ev,dec_zero,dec_enc,List.nil_append]
      exact (fin e1 (fun i hi=>he1 i (by omega)) ht1).1
     ·intro x hx
      rw [List.mem_singleton.1 hx]
      show nn+ds'.length<nn+(ds'++_).length
      simp
     ·obtain ⟨t1,t2⟩:=Told.append.1 ht
      have h0:=(t2 0 _ _ rfl).1
      simp only [Nat.add_zero,D.ev,A.ev,dec_zero,List.nil_append] at h0
      obtain ⟨f1,f2⟩:=fin e' he t1
      simp only [List.map_cons,List.map_nil,Sh.leaves,lhas,Sh.rel,List.headD_cons,A.ev,h0,dec_enc]
      exact ⟨⟨f1,trivial⟩,f2⟩
    ·cases h
   ·cases h
 ·cases h
theorem takeIns_ok:∀ (ss:List Sh) (vs:List V) (nn:Nat) (ds:Defs) (as:List A),takeIns Z nn ss vs=some (ds,as)->∀ {m:M},Rep w0 m Z a w->∀ {us:List Value},VRels m Z.nv Z.al vs us ->
  (Z.nv<=nn->GenOk T m.env nn ds/\(∀ a∈as,a.ok (nn+ds.length))) /\
  ∀ e',(∀ i,i<Z.nv->e' i=m.env i)->Told T e' nn ds->insRel w ss (as.map (·.ev e')) us:=by
 intro ss
 induction ss with
 | nil =>
  intro vs nn ds as h m _ us hu
  unfold takeIns at h
  split at h
  ·cases h
   match us,hu with
   | [],_=>exact ⟨fun _=>⟨trivial,by simp⟩,fun e' _ _=>⟨rfl,rfl⟩⟩
  ·simp_all
  ·cases h
 | cons s ss ih =>
  intro vs nn ds as h m hrep us hu
  unfold takeIns at h
  split at h
  ·simp_all
  ·rename_i s' ss' v vs' hss
   simp only [List.cons.injEq] at hss
   obtain ⟨rfl,rfl⟩:=hss
   split at h
   ·cases h
   ·rename_i d hd
    obtain ⟨d1,d2⟩:=d
    simp only at h
    split at h
    ·cases h
    ·rename_i r hr
     obtain ⟨r1,r2⟩:=r
     simp at h
     obtain ⟨rfl,rfl⟩:=h
     match us,hu with
     | u::us,hu =>
      obtain ⟨g1,g3,g4⟩:=takeSh_ok (T:=T) hd hrep hu.1
      have tl:=ih _ _ _ _ hr hrep hu.2
      refine ⟨fun hn=>⟨gen_append _ _ _ _ (g1 hn).1 fun e1 he1 _=>?_,?_⟩,fun e2 he2 ht2=>?_⟩
      ·have hx:MExt m Z.nv Z.al {m with env:=e1 } Z.nv Z.al:=⟨fun i hi=>he1 i (by omega),fun _ _=>rfl,rfl,fun _ _=>rfl,Nat.le_refl _,fun _ h=>h⟩
       exact ((ih _ _ _ _ hr (hrep.names e1 (fun i hi=>he1 i (by omega)) Z.nv (Nat.le_refl _)) (hu.2.mono hx)).1 (by show Z.nv<=_;omega)).1
      ·intro x hx
       rcases List.mem_append.1 hx with hx | hx
       ·exact A.ok_mono ((g1 hn).2 x hx) (by simp)
       ·exact A.ok_mono ((tl.1 (by omega)).2 x hx) (by simp;omega)
      ·rw [Told.append] at ht2
       obtain ⟨h1,h2⟩:=g4 e2 he2 ht2.1
       have h3:=tl.2 e2 he2 ht2.2
       have e1:(List.map (fun x=>A.ev e2 x) d2++List.map (fun x=>A.ev e2 x) r2).take (lcount s.leaves)=List.map (fun x=>A.ev e2 x) d2:=by
        rw [List.take_append_of_le_length (by simp [g3]),List.take_of_length_le (by simp [g3])]
       have e2':(List.map (fun x=>A.ev e2 x) d2++List.map (fun x=>A.ev e2 x) r2).drop (lcount s.leaves)=List.map (fun x=>A.ev e2 x) r2:=by
        rw [List.drop_append_of_le_length (by simp [g3]),List.drop_of_length_le (by simp [g3])];rfl
       simp only [List.map_append,insRel,e1,e2']
       exact ⟨h1,h2,h3⟩
  ·cases h
end
end Go.Sx
namespace Go.Sx
open Go Go.ChangeShapes Go.WideShapes Go.RowKit
variable {H:Type} {enc':TypeId×Value->H} {P:Program} {w:World} {base:Nat} {spare:Nat->Bool} {held:Bool}
theorem arr_cells {t e:TypeId} {n:Nat} {k:IntKind} (ht:P.underlying t=some (.array n e)) (he:P.underlying e=some (.int k)) (hce:P.cellsOf e=1) (hct:P.cellsOf t=n)
  {m:Nat} {cs:List Value} {d:DataW H×List MemPlace} (hf:DataW.trod enc' P w base spare held m t cs=some d) (hl:cs.length=n) :
  ∃ zs:List Int,zs.length=n/\cs=zs.map (fun z=>.int k z)/\∀ z∈zs,(Lit.int k z).wf=true:=by
 cases m with
 | zero=>simp [DataW.trod] at hf
 | succ m =>
  rw [DataW.trod_step] at hf
  unfold DataW.trodStep at hf
  simp only [ht] at hf
  rw [if_pos (by rw [hct];exact hl)] at hf
  simp only [Option.map_eq_some_iff] at hf
  obtain ⟨ys,hy,_⟩:=hf
  have hall:=mapM_each _ _ hy
  have hz:∀ i,i<n->∃ z,cs[i]?=some (.int k z)/\(Lit.int k z).wf=true:=by
   intro i hi
   obtain ⟨y,hy⟩:=hall i (List.mem_range.2 hi)
   obtain ⟨z,e1,_,wz⟩:=DataW.trod_int he hy
   rw [hce,Nat.mul_one] at e1
   refine ⟨z,?_,wz⟩
   have:((cs.drop i).take 1)[0]?=some (.int k z):=by rw [e1];rfl
   simpa using this
  have key:∀ (L:List Value),(∀ i,i<L.length->∃ z,L[i]?=some (.int k z)/\(Lit.int k z).wf=true)->∃ zs:List Int,zs.length=L.length/\L=zs.map (fun z=>.int k z)/\∀ z∈zs,(Lit.int k z).wf=true:=by
   intro L
   induction L with
   | nil=>exact fun _=>⟨[],rfl,rfl,fun _ h=>by cases h⟩
   | cons a L ih =>
    intro h
    obtain ⟨z,e0,wz⟩:=h 0 (by simp)
    simp at e0
    subst e0
    obtain ⟨zs,h1,h2,h3⟩:=ih fun i hi=>by have:=h (i+1) (by simpa using hi);simpa using this
    exact ⟨z::zs,by simp [h1],by rw [h2];rfl,fun y hy=>by rcases List.mem_cons.1 hy with rfl | hy;exact wz;exact h3 _ hy⟩
  obtain ⟨zs,h1,h2,h3⟩:=key cs (by rw [hl];exact hz)
  exact ⟨zs,by rw [h1,hl],h2,h3⟩
theorem num_cells {t e:TypeId} (ht:P.underlying t=some (.array 6 e)) (he:P.underlying e=some (.int .u64)) (hce:P.cellsOf e=1) (hct:P.cellsOf t=6)
  {m:Nat} {cs:List Value} {d:DataW H×List MemPlace} (hf:DataW.trod enc' P w base spare held m t cs=some d) (hl:cs.length=6) :
  ∃ x:Int,(0<=x/\x<N384)/\cs=limbs x:=by
 obtain ⟨zs,hl,rfl,hw⟩:=arr_cells ht he hce hct hf hl
 match zs,hl,hw with
 | [z0,z1,z2,z3,z4,z5],_,hw =>
  obtain ⟨x,h1,h2,h3⟩:=limbs_six z0 z1 z2 z3 z4 z5 (int_of_wf (hw _ (by simp))) (int_of_wf (hw _ (by simp))) (int_of_wf (hw _ (by simp))) (int_of_wf (hw _ (by simp))) (int_of_wf (hw _ (by simp))) (int_of_wf (hw _ (by simp)))
  exact ⟨x,⟨h1,h2⟩,by rw [h3];rfl⟩
end Go.Sx
namespace Go.Sx
open Go Go.ChangeShapes Go.WideShapes Go.RowKit
variable {H:Type} {enc':TypeId×Value->H} {P:Program} {w:World} {base:Nat} {spare:Nat->Bool} {held:Bool}
theorem has_i64' {a:Int} (wa:(Lit.int .i64 a).wf=true):has .i64 a:=by
 simp [Lit.wf] at wa
 have q1:IntKind.i64.min=-9223372036854775808:=by decide +kernel
 have q2:IntKind.i64.max=9223372036854775807:=by decide +kernel
 have l:lo .i64=-9223372036854775808:=by decide +kernel
 have h:hi .i64=9223372036854775807:=by decide +kernel
 simp only [has,l,h]
 omega
end Go.Sx
namespace Go.Sx
open Go Go.ChangeShapes Go.WideShapes Go.RowKit
variable {H:Type} {enc':TypeId×Value->H} {P:Program} {w:World} {base:Nat} {spare:Nat->Bool} {held:Bool}
theorem la_append:∀ (a b:List L) (xs ys:List Int),lhas a xs->lhas b ys->lhas (a++b) (xs++ys)/\lvals (a++b) (xs++ys)=lvals a xs++lvals b ys
 | [],b,[],ys,_,h=>⟨h,rfl⟩
 | [],b,x::xs,ys,h,_=>h.elim
 | .cst c::a,b,xs,ys,h,h'=>by
  obtain ⟨h1,h2⟩:=la_append a b xs ys h h'
  exact ⟨h1,by simp only [List.cons_append,lvals,h2]⟩
 | .int k::a,b,[],ys,h,_=>h.elim
 | .int k::a,b,x::xs,ys,h,h'=>by
  obtain ⟨h1,h2⟩:=la_append a b xs ys h.2 h'
  exact ⟨⟨h.1,h1⟩,by simp only [List.cons_append,lvals,h2]⟩
 | .bool::a,b,[],ys,h,_=>h.elim
 | .bool::a,b,x::xs,ys,h,h'=>by
  obtain ⟨h1,h2⟩:=la_append a b xs ys h.2 h'
  exact ⟨⟨h.1,h1⟩,by simp only [List.cons_append,lvals,h2]⟩
 | .num::a,b,[],ys,h,_=>h.elim
 | .num::a,b,x::xs,ys,h,h'=>by
  obtain ⟨h1,h2⟩:=la_append a b xs ys h.2 h'
  exact ⟨⟨h.1,h1⟩,by simp only [List.cons_append,lvals,h2,List.append_assoc]⟩
 | .lst k::a,b,[],ys,h,_=>h.elim
 | .lst k::a,b,x::xs,ys,h,h'=>by
  obtain ⟨h1,h2⟩:=la_append a b xs ys h.2 h'
  exact ⟨⟨h.1,h1⟩,by simp only [List.cons_append,lvals,h2]⟩
def isU64 (P:Program) (e:TypeId):Bool:=match P.underlying e with | some (.int .u64)=>true | _=>false
def fldLs (P:Program) (f:TypeId->Option (List L)):List Field->Nat->Option (List L)
 | [],_=>some []
 | x::r,off=>if x.offset==off then match f x.type,fldLs P f r (off+P.cellsOf x.type) with
  | some a,some b=>some (a++b)
  | _,_=>none
  else none
def fldSz (P:Program):List Field->Nat
 | []=>0
 | x::r=>P.cellsOf x.type+fldSz P r
def tyLs (P:Program):Nat->TypeId->Option (List L)
 | 0,_=>none
 | n+1,t=>match P.underlying t with
  | some (.int k)=>if k == .i64 || k == .u64 then some [.int k] else none
  | some .bool=>some [.bool]
  | some (.array m e)=>if m==6&&isU64 P e&&P.cellsOf e==1&&P.cellsOf t==6 then some [.num]
   else if m==2&&P.cellsOf t==P.cellsOf e+P.cellsOf e then match tyLs P n e with | some ls=>some (ls++ls) | none=>none else none
  | some (.struct fs)=>if fldSz P fs.toList==P.cellsOf t then fldLs P (tyLs P n) fs.toList 0 else none
  | _=>none
theorem has_u64' {a:Int} (wa:(Lit.int .u64 a).wf=true):has .u64 a:=by
 have:=int_of_wf wa
 have l:lo .u64=0:=by decide +kernel
 have h:hi .u64=18446744073709551615:=by decide +kernel
 simp only [has,l,h]
 omega
theorem fld_open {n:Nat} {m:Nat} (ih:∀ t ls,tyLs P n t=some ls->∀ cs (d:DataW H×List MemPlace),DataW.trod enc' P w base spare held m t cs=some d->∃ xs,lhas ls xs/\cs=lvals ls xs) :
  ∀ (fs:List Field) (off:Nat) (ls:List L) (cs:List Value),fldLs P (tyLs P n) fs off=some ls->cs.length=off+fldSz P fs->(∀ f∈fs,∃ d,DataW.trod enc' P w base spare held m f.type ((cs.drop f.offset).take (P.cellsOf f.type))=some d)->∃ xs,lhas ls xs/\cs.drop off=lvals ls xs
 | [],off,ls,cs,h,hl,_=>by
  simp only [fldLs,Option.some.injEq] at h
  subst h
  exact ⟨[],trivial,by rw [List.drop_of_length_le (by simp [fldSz] at hl;omega)];rfl⟩
 | x::r,off,ls,cs,h,hl,hd=>by
  simp only [fldLs] at h
  split at h
  ·rename_i ho
   rw [beq_iff_eq] at ho
   split at h
   ·rename_i a b ha hb
    cases h
    simp only [fldSz] at hl
    obtain ⟨d,hd0⟩:=hd x (List.mem_cons_self ..)
    obtain ⟨xs,x1,x2⟩:=ih _ _ ha _ _ hd0
    obtain ⟨ys,y1,y2⟩:=fld_open ih r (off+P.cellsOf x.type) b cs hb (by omega) fun f hf=>hd f (List.mem_cons_of_mem _ hf)
    obtain ⟨k1,k2⟩:=la_append a b xs ys x1 y1
    refine ⟨xs++ys,k1,?_⟩
    rw [k2,<- x2,<- y2,ho,<- List.drop_drop,List.take_append_drop]
   ·cases h
  ·cases h
theorem flat_open:∀ (n:Nat) (t:TypeId) (ls:List L),tyLs P n t=some ls->∀ (m:Nat) (cs:List Value) (d:DataW H×List MemPlace),DataW.trod enc' P w base spare held m t cs=some d->∃ xs,lhas ls xs/\cs=lvals ls xs
 | 0,_,_,h,_,_,_,_=>by cases h
 | n+1,t,ls,h,m,cs,d,hd=>by
  simp only [tyLs] at h
  split at h
  ·rename_i k hk
   split at h
   ·rename_i hkk
    cases h
    obtain ⟨z,rfl,_,wz⟩:=DataW.trod_int hk hd
    simp only [Bool.or_eq_true,beq_iff_eq] at hkk
    rcases hkk with rfl | rfl
    ·exact ⟨[z],⟨has_i64' wz,trivial⟩,rfl⟩
    ·exact ⟨[z],⟨has_u64' wz,trivial⟩,rfl⟩
   ·cases h
  ·rename_i hk
   cases h
   obtain ⟨b,rfl,_⟩:=DataW.trod_bool hk hd
   cases b
   ·exact ⟨[0],⟨⟨by decide,by decide⟩,trivial⟩,rfl⟩
   ·exact ⟨[1],⟨⟨by decide,by decide⟩,trivial⟩,rfl⟩
  ·rename_i j e hk
   split at h
   ·rename_i hc
    simp only [Bool.and_eq_true,beq_iff_eq] at hc
    obtain ⟨⟨⟨h1,h2⟩,h3⟩,h4⟩:=hc
    cases h
    subst h1
    have he:P.underlying e=some (.int .u64):=by
     unfold isU64 at h2
     split at h2
     ·assumption
     ·cases h2
    obtain ⟨_,_,_,_,hl,_,_⟩:=DataW.trod_array hk hd
    obtain ⟨x,hx,rfl⟩:=num_cells hk he h3 h4 hd (by rw [hl,h4])
    exact ⟨[x],⟨hx,trivial⟩,by simp [lvals]⟩
   ·split at h
    ·rename_i hc
     simp only [Bool.and_eq_true,beq_iff_eq] at hc
     obtain ⟨h1,h2⟩:=hc
     subst h1
     split at h
     ·rename_i ls' hls
      cases h
      obtain ⟨ys,m',rfl,_,hl,hl2,hel⟩:=DataW.trod_array hk hd
      match ys,hl2 with
      | [y0,y1],_ =>
       have e0:=hel 0 (by decide)
       have e1:=hel 1 (by decide)
       obtain ⟨xs,x1,x2⟩:=flat_open n e ls' hls m' _ _ e0
       obtain ⟨zs,z1,z2⟩:=flat_open n e ls' hls m' _ _ e1
       obtain ⟨k1,k2⟩:=la_append ls' ls' xs zs x1 z1
       refine ⟨xs++zs,k1,?_⟩
       rw [k2,<- x2,<- z2,Nat.zero_mul,List.drop_zero,Nat.one_mul]
       rw [List.take_of_length_le (l:=cs.drop _) (by rw [List.length_drop];omega),List.take_append_drop]
     ·cases h
    ·cases h
  ·rename_i fs hk
   split at h
   ·rename_i hc
    rw [beq_iff_eq] at hc
    obtain ⟨ys,m',rfl,_,hl,hl2,hel⟩:=DataW.trod_struct hk hd
    have:=fld_open (P:=P) (H:=H) (enc':=enc') (w:=w) (base:=base) (spare:=spare) (held:=held) (n:=n) (m:=m') (fun t ls ht cs d hd=>flat_open n t ls ht m' cs d hd) fs.toList 0 ls cs h (by omega) fun f hf=>by
     obtain ⟨i,hi,rfl⟩:=List.getElem_of_mem hf
     have hi':i<fs.size:=by simpa using hi
     have:=hel i (fs[i]) (by simp [hi'])
     have hy:i<ys.length:=by omega
     exact ⟨ys[i],by rw [Array.getElem_toList,this];simp [hy]⟩
    simpa using this
   ·cases h
  ·cases h
theorem open_flat {n:Nat} {t:TypeId} {ls:List L} (hls:tyLs P n t=some ls) (hag:(match P.underlying t with | some (.struct _)=>true | some (.array _ _)=>true | _=>false)=true)
  {r:Reach} {b0:Nat} {v:Value} {d:DataW H} {p:List MemPlace} (hval:Value.okWide P w r b0 t v) (hd:DataW.Trod enc' P w base spare held t v d p) :
  ∃ xs:List Int,lhas ls xs/\v=.agg (lvals ls xs).toArray:=by
 obtain ⟨cs,rfl⟩:∃ cs,v=.agg cs:=by
  split at hag
  ·rename_i hk
   simp only [Value.okWide,hk] at hval
   obtain ⟨cs,rfl,_⟩:=hval
   exact ⟨cs,rfl⟩
  ·rename_i hk
   simp only [Value.okWide,hk] at hval
   obtain ⟨cs,rfl,_⟩:=hval
   exact ⟨cs,rfl⟩
  ·cases hag
 obtain ⟨fuel,hf⟩:=hd
 obtain ⟨xs,h1,h2⟩:=flat_open n t ls hls fuel _ _ hf
 exact ⟨xs,h1,by rw [<- h2];simp [Value.cells]⟩
end Go.Sx
namespace Go.Sx
open Go Go.RowKit
theorem leaf_vals {k:LK} {x:Int} (hk:∀ l ls,k≠.tup l ls):lvals [k.leaf] [x]=k.vals x:=by
 cases k with
 | num=>simp [LK.leaf,lvals,LK.vals]
 | int k=>simp [LK.leaf,lvals,LK.vals]
 | tup l ls=>exact absurd rfl (hk l ls)
theorem LL.vals_one (l:LL) (x:Int):∀ u∈l.vals x,u.oneCell'=true:=by
 cases l with
 | num=>intro u hu;simp only [LL.vals,limbs,List.mem_map] at hu;obtain ⟨j,_,rfl⟩:=hu;rfl
 | int k=>intro u hu;simp only [LL.vals,List.mem_singleton] at hu;subst hu;rfl
 | bit=>intro u hu;simp only [LL.vals,List.mem_singleton] at hu;subst hu;rfl
theorem llVals_one:∀ (ls:List LL) (xs:List Int),∀ u∈llVals ls xs,u.oneCell'=true
 | [],_,u,hu=>by cases hu
 | l::ls,xs,u,hu=>by
  rcases List.mem_append.1 hu with hu | hu
  ·exact LL.vals_one l _ u hu
  ·exact llVals_one ls _ u hu
theorem vals_one (k:LK) (x:Int):∀ u∈k.vals x,u.oneCell'=true:=by
 cases k with
 | num=>intro u hu;simp only [LK.vals,limbs,List.mem_map] at hu;obtain ⟨j,_,rfl⟩:=hu;rfl
 | int k=>intro u hu;simp only [LK.vals,List.mem_singleton] at hu;subst hu;rfl
 | tup l ls=>exact llVals_one (l::ls) _
theorem flat_cons (k:LK) (x:Int) (l:List Int):flat k (x::l)=k.vals x++flat k l:=rfl
theorem flat_set (k:LK):∀ (l:List Int) (i:Nat) (y:Int),i<l.length->flat k (l.set i y)=(flat k l).take (i*k.sz)++k.vals y++(flat k l).drop (i*k.sz+k.sz)
 | [],i,y,h=>by simp at h
 | x::l,0,y,_=>by
  rw [List.set_cons_zero,flat_cons,flat_cons,Nat.zero_mul,Nat.zero_add,List.take_zero,List.nil_append,<- vals_len k x,List.drop_left]
 | x::l,i+1,y,h=>by
  have hi:=flat_set k l i y (by simpa using h)
  rw [List.set_cons_succ,flat_cons,hi,flat_cons]
  have e1:(i+1)*k.sz=(k.vals x).length+i*k.sz:=by rw [vals_len,Nat.add_mul];omega
  rw [e1,Nat.add_assoc,List.take_length_add_append,List.drop_length_add_append]
  simp [List.append_assoc]
theorem take_mid {α:Type} {c vs:List α} {off n:Nat} (h:off+vs.length<=n):(c.take off++vs++c.drop (off+vs.length)).take n=(c.take n).take off++vs++(c.take n).drop (off+vs.length):=by
 by_cases hc:off<=c.length
 ·rw [List.append_assoc,List.take_append,List.take_append,List.take_of_length_le (l:=c.take off) (by rw [List.length_take];omega),List.take_of_length_le (l:=vs) (by rw [List.length_take];omega),
   List.take_take,Nat.min_eq_left (by omega),List.append_assoc,List.length_take,Nat.min_eq_left hc,List.drop_take,Nat.sub_sub]
 ·have hc':c.length<=off:=by omega
  rw [List.take_of_length_le hc',List.drop_of_length_le (by omega),List.append_nil,List.take_of_length_le (l:=c++vs) (by rw [List.length_append];omega),List.take_of_length_le (l:=c.take n) (by rw [List.length_take];omega),
   List.take_of_length_le (l:=c) (by omega),List.drop_of_length_le (by omega),List.append_nil]
section
variable {P:Program} {T:List K} {w0:World} {m:M} {Z:St} {a:Act} {w:World} {o:Oper} {nn nid:Nat} {p:Plan}
theorem flat_u8 (l:List Int):flat (.int .u8) l=l.map (Value.int .u8):=by
 induction l with
 | nil=>rfl
 | cons x l ih=>simp only [flat,List.flatMap_cons,List.map_cons] at *;rw [ih];rfl
theorem takeLst_wf {k:LK} {v:V} {ds:Defs} {y:A} (ht:takeSh Z nn (.lst k) v=some (ds,[y])) (h:Rep w0 m Z a w) (hd:DefsOk T m.env Z.nv nn ds):y.wf Z.nv m.env:=by
 have hlt:=hd.1
 cases v with
 | agg cs=>cases ht
 | one c =>
  cases c with
  | sl id =>
   simp only [takeSh] at ht
   split at ht
   ·rename_i r hr
    split at ht
    ·cases ht;exact (h.row_ok hr).2.1
    ·cases ht
   ·cases ht
  | nilslice=>cases ht;exact ⟨trivial,trivial⟩
  | slv id lo hi k' =>
   simp only [takeSh] at ht
   split at ht
   ·split at ht
    ·cases ht
     simp only [List.length_cons,List.length_nil] at hlt
     exact ⟨by show nn<Z.nv;omega,trivial⟩
    ·cases ht
   ·cases ht
  | slice id off n c =>
   simp only [takeSh] at ht
   split at ht
   ·cases ht
   ·split at ht
    ·split at ht
     ·cases ht
      simp only [List.length_append,List.length_cons,List.length_nil] at hlt
      exact ⟨by show nn+_<Z.nv;omega,trivial⟩
     ·cases ht
    ·cases ht
  | _=>cases ht
theorem pure_convert {s d:TypeId} {x:Operand} (h:Rep w0 m Z a w) (ho:o.op=.convert s d x) (hp:plan P T Z nn nid o.op=.ok p) (hd:DefsOk T m.env Z.nv nn p.defs):PureOk P m Z a w o p.val:=by
 rw [ho] at hp
 simp only [plan] at hp
 split at hp
 ·rename_i ds k k' y hs hu hx
  have h1:=h.cell hx
  have key:(execOp a.eval o).run P w=.ok (.value (.int k (wr k (y.ev m.env)))) w:=by
   simp only [execOp,ho,h1.2.2,convert]
   simp [run_underlying hs,run_underlying hu,Conv.intToInt,wr_eq]
  split at hp
  ·rename_i hk
   cases hp
   have h2:=subKind_has hk h1.2.1
   rw [wr_id h2] at key
   exact ⟨_,key,h1.1,h2,rfl⟩
  ·obtain ⟨z,hz,hk,he⟩:=mkP_ok hp hd
   rw [hz]
   refine ⟨_,key,hk,by rw [he];exact wr_has _ _,?_⟩
   rw [he];rfl
 ·rename_i e c hs hu hx
  have h1:=h.cell hx
  split at hp
  ·rename_i ds y he htk
   cases hp
   obtain ⟨_,g3,g4⟩:=takeSh_ok (T:=T) htk h (u:=a.eval x) h1
   obtain ⟨f1,f2⟩:=g4 m.env (fun _ _=>rfl) hd.2
   have f1:(LK.int .u8).hasL (dec (y.ev m.env)):=f1.1
   have f2:RoRow w w (.int .u8) (a.eval x) (dec (y.ev m.env)):=f2
   have wy:=takeLst_wf htk h hd
   refine ⟨.string (strOfNums (dec (y.ev m.env))),?_,wy,f1,rfl⟩
   generalize dec (y.ev m.env)=l at *
   rcases f2 with ⟨k1,k2⟩ | ⟨ad,cap,k1,_,k3,k4⟩
   ·simp only [execOp,ho,k1]
    rw [k2]
    simp [run_convert_bytes_nil w s e hs he 0 0 d hu,strOfNums]
    rfl
   ·have hl:(loadCells ad l.length).run P w=.ok (l.map (Value.int .u8)).toArray w:=by
     have:=run_loadCells_list (P:=P) w ad (l.map (Value.int .u8)) (fun j v hj=>k4 j v (by rw [flat_u8];exact hj))
     rwa [List.length_map] at this
    simp only [execOp,ho,k1]
    simp [run_convert_bytes_string w s d e (some ad) l.length cap hs he hu,run_bytesToString w ad l.length cap l hl,foldl_push_bytes,strOfNums]
  ·cases hp
 ·cases hp
def Stored (P:Program) (w0:World) (m:M) (Z:St) (a:Act) (w:World) (o:Oper) (p:Plan):Prop :=
 ∃ (id:Nat) (u:Upd) (b:Box) (w':World),p.val=.tup []/\p.eff=.wr id u/\Z.boxes[id]?=some (some b)/\(execOp a.eval o).run P w=.ok .skip w'/\Rep w0 m (Z.setBox id (b.upd u)) a w'
theorem run_store_ok {t:TypeId} {x y:Operand} (h:Rep w0 m Z a w) (ho:o.op=.store t x y) (hp:plan P T Z nn nid o.op=.ok p) (hD:DefsOk T m.env Z.nv nn p.defs) :
  Stored P w0 m Z a w o p:=by
 rw [ho] at hp
 simp only [plan] at hp
 split at hp
 ·rename_i id off v hx hy
  have h1:=h.cell hx
  split at hp
  ·rename_i b n hb hn
   split at hp
   ·rename_i hc
    simp only [Bool.and_eq_true,decide_eq_true_eq,beq_iff_eq] at hc
    obtain ⟨⟨⟨hc1,hc2⟩,hc3⟩,hc4⟩:=hc
    cases hp
    obtain ⟨vs,g1,g2,g3⟩:=V.rel_cells (h.v_ hy) hc3
    obtain ⟨hz,_,us,hus,hrels⟩:=h.own id b (box_some hb) hc1
    refine ⟨id,_,b,_,rfl,rfl,box_some hb,?_,h.wr (off:=off) (box_some hb) hc1 hus g2⟩
    have hl:=Rels.length g2
    have hlu:=Rels.length hrels
    have hst:=run_storeCells_at P (m.rho id).1 off b.elem vs 0 us.toArray w hus (by simp;omega) g3
    have had:(m.at id off)=⟨(m.rho id).1,off,none⟩:=by simp [M.at,hz]
    simp only [execOp,ho,h1.2,Instr.storeAt,Instr.sureAddr,had]
    have hsz:¬ (a.eval y).cells.size≠n:=by rw [g1];simp;omega
    simp only [storeVar,Sem.run_bind,Sem.run_pure,Result.andThen_ok,run_sizeOf hn]
    rw [if_neg hsz,g1]
    simp only [Nat.add_zero] at hst
    simp [hst]
   ·cases hp
  ·cases hp
 ·rename_i id off i n k x' hx hy
  obtain ⟨h1a,h1b,h1c,h1d⟩:=h.cell hx
  have h2:C.rel m Z.nv Z.al (.int k x') (a.eval y):=h.v_ hy
  split at hp
  ·rename_i b hb hn
   split at hp
   ·rename_i r hr
    split at hp
    ·rename_i hc
     simp only [Bool.and_eq_true,beq_iff_eq] at hc
     obtain ⟨⟨hc1,hc2⟩,hc3⟩:=hc
     cases hp
     have hcs:=intsOf_ok hr
     obtain ⟨hz,_,us,hus,hrels⟩:=h.own id b (box_some hb) hc1
     have hlu:=Rels.length hrels
     have hen:off+n<=us.length∨n=0:=by
      have:=congrArg List.length hcs
      rw [List.length_map,hc2,List.length_take,List.length_drop] at this
      omega
     have hen:off+n<=us.length:=by omega
     have hsub:Rels m Z.nv Z.al (r.2.map (.int r.1)) ((us.drop off).take n):=by rw [<- hcs];exact (hrels.drop off).take n
     obtain ⟨q,hq⟩:=Int.eq_ofNat_of_zero_le h1c.1
     have hqn:q<n:=by omega
     have hkk:r.1=k:=hc3
     subst hkk
     have hv:(a.eval y).cells=#[.int r.1 (x'.ev m.env)]:=by rw [h2.2.2];rfl
     refine ⟨id,_,b,_,rfl,rfl,box_some hb,?_,h.wr (off:=off) (vs:=((us.drop off).take n).set q (.int r.1 (x'.ev m.env))) (box_some hb) hc1 hus ?_⟩
     rotate_left
     ·refine Rels.of_get (by rw [putCs_len];simp;omega) fun j c hj=>?_
      obtain ⟨hjn,rfl⟩:=putCs_get _ _ _ _ _ hj
      have hdj:(putDs r.1 i x' r.2 0)[j]?=some (.int r.1,.put i j x' (r.2[j]'(by omega))):=by
       rw [putDs_get,List.getElem?_eq_getElem (by omega)];simp
      have he:=DefsOk.snd (i:=j) hD hdj
      simp only [D.ev,hq] at he
      obtain ⟨g1,g2⟩:=sel_ok hsub (i:=j) (by omega)
      have hgd:(r.2.map (·.ev m.env)).getD j 0=(r.2[j]'(by omega)).ev m.env:=by simp [List.getD_eq_getElem?_getD,hc2,hjn]
      rw [hgd] at g1 g2
      have hnv:nn+j<Z.nv:=by have:=hD.1;simp only [putDs_len,hc2] at this;omega
      by_cases hqj:q=j
      ·subst hqj
       simp only [if_true] at he
       refine ⟨_,List.getElem?_set_self (by simp;omega),⟨hnv,trivial⟩,?_,?_⟩
       ·simp only [A.ev,he];exact h2.2.1
       ·simp only [A.ev,he]
      ·rw [if_neg (by omega)] at he
       refine ⟨_,by rw [List.getElem?_set_ne hqj];exact g2,⟨hnv,trivial⟩,?_,?_⟩
       ·simp only [A.ev,he];exact g1
       ·simp only [A.ev,he]
     ·have hst:=run_storeCells_at P (m.rho id).1 (off+q) b.elem [.int r.1 (x'.ev m.env)] 0 us.toArray w hus (by simp;omega) (by simp [Value.oneCell'])
      have had:(m.at id (off+(i.ev m.env).toNat))=⟨(m.rho id).1,off+q,none⟩:=by simp [M.at,hz,hq]
      simp only [execOp,ho,h1d,Instr.storeAt,Instr.sureAddr,had]
      have hsz:¬ (a.eval y).cells.size≠1:=by rw [hv];simp
      simp only [storeVar,Sem.run_bind,Sem.run_pure,Result.andThen_ok,run_sizeOf hn]
      rw [if_neg hsz,hv,<- set_row hqn hen]
      simp only [Nat.add_zero] at hst
      simp [hst]
    ·cases hp
   ·cases hp
  ·cases hp
 ·rename_i id i k v hx hy
  obtain ⟨h1a,h1c,h1d,h1e⟩:=h.cell hx
  split at hp
  ·rename_i r s hr hs
   split at hp
   ·rename_i hc
    simp only [Bool.and_eq_true,beq_iff_eq] at hc
    obtain ⟨⟨⟨hc1,hc2⟩,hc3⟩,hc4⟩:=hc
    have hk:=LKeq_ok hc2
    subst hk
    subst hc3
    split at hp
    ·rename_i ds yy htk
     cases hp
     obtain ⟨q1,q2,q5,q6,q3⟩:=h.row_ok hr
     obtain ⟨b,hb,hbr⟩:=row_box hr
     obtain ⟨vs,g1,g2,g3⟩:=V.rel_cells (h.v_ hy) hc4
     obtain ⟨k1,k3⟩:=takeK_ok (T:=T) htk m Z.nv vs g2
     obtain ⟨t1,t2⟩:=Told.append.1 hD.2
     have t3:=t2 0 _ _ rfl
     simp only [Nat.add_zero,D.ev] at t3
     obtain ⟨v1,v2⟩:=k3 m.env (fun _ _=>rfl) t1
     have hlt:nn+ds.length<Z.nv:=by have:=hD.1;simp only [List.length_append,List.length_cons,List.length_nil] at this;omega
     rw [q3.lenV] at h1d
     generalize hl:dec (r.x.ev m.env)=l at *
     generalize yy.ev m.env=z at *
     obtain ⟨q,hq⟩:=Int.eq_ofNat_of_zero_le h1d.1
     rw [hq] at h1d t3
     simp only [Int.toNat_natCast] at t3
     have hql:q<l.length:=by omega
     have q4:=q3.2.1
     rw [hc1] at q4
     simp only [if_true] at q4
     rcases q4.2 with ⟨hv,hn⟩ | ⟨g,cap,cur,hv,hbase,hg,hc1',hc2',hc3',hc4'⟩
     ·omega
     have hvl:vs.length=r.k.sz:=by rw [<- v1,vals_len]
     have hmul:q*r.k.sz+r.k.sz<=l.length*r.k.sz:=by
      rw [<- Nat.succ_mul];exact Nat.mul_le_mul_right _ hql
     have hmul2:l.length*r.k.sz<=cap*r.k.sz:=Nat.mul_le_mul_right _ hc1'
     have hst:=run_storeCells_at P g (q*r.k.sz) r.elem vs 0 cur w hg (by omega) g3
     refine ⟨id,.row (.var (nn+ds.length)),b,w.setRow g (cur.toList.take (q*r.k.sz)++vs++cur.toList.drop (q*r.k.sz+vs.length)).toArray,rfl,rfl,hb,?_,?_⟩
     ·have had:(slAt (m.sv id)).add (q*r.k.sz)=⟨g,q*r.k.sz,none⟩:=by rw [hv];exact addr0 _ _
      rw [hq] at h1e
      simp only [Int.toNat_natCast] at h1e
      simp only [execOp,ho,h1e,Instr.storeAt,Instr.sureAddr,had]
      have hsz:¬ (a.eval y).cells.size≠r.k.sz:=by rw [g1];simp [hvl]
      simp only [storeVar,Sem.run_bind,Sem.run_pure,Result.andThen_ok,run_sizeOf hs]
      rw [if_neg hsz,g1]
      simp only [Nat.add_zero] at hst
      simp [hst]
     ·have hdec:dec (A.ev m.env (.var (nn+ds.length)))=l.set q z:=by simp only [A.ev,t3.1,dec_enc]
      refine h.wrRow hb hbr hc1 (g:=g) (by rw [hv];rfl) ⟨hlt,trivial⟩ (by rw [hdec,hl,List.length_set]) ?_
      rw [hdec]
      refine ⟨⟨by rw [List.length_set];exact q3.1.1,fun x hx=>?_⟩,?_,q3.2.2⟩
      ·rcases List.mem_or_eq_of_mem_set hx with h1 | h1
       ·exact q3.1.2 x h1
       ·rw [h1];exact v2
      ·simp only [hc1,if_true]
       refine ⟨flat_len _ _,.inr ⟨g,cap,_,by rw [List.length_set];exact hv,hbase,setRow_heap w _ _ _ _ _ hg,by rw [List.length_set];exact hc1',hc2',?_,?_⟩⟩
       ·simp only [List.size_toArray,List.length_append,List.length_take,List.length_drop,Array.length_toList];omega
       ·rw [List.length_set,List.toList_toArray,flat_set _ _ _ _ hql,v1,<- hc4',<- hvl]
        exact take_mid (by rw [hvl];omega)
    ·cases hp
   ·cases hp
  ·cases hp
 ·cases hp
end
theorem cst_rel {m:M} {nv:Nat} {al:Nat->Bool} (c:C):C.rel m nv al (if cstB c then c else .top) (cstV c):=by
 split
 ·rename_i h
  unfold cstB at h
  split at h
  all_goals (first | rfl | skip)
  ·exact ⟨by simp,rfl⟩
  ·exact ⟨⟨trivial,trivial⟩,hasB_has h,rfl⟩
  ·rename_i n
   simp at h
   refine ⟨⟨trivial,trivial⟩,?_,rfl⟩
   simp only [A.ev];omega
  ·cases h
 ·trivial
section
variable {T:List K} {g:Nat} {Y:K} {args:List A}
theorem putLs_length:∀ (ls:List L) (nn j:Nat),(putLs g args nn j ls).1.length=lcount ls:=by
 intro ls
 induction ls with
 | nil=>intro nn j;rfl
 | cons l ls ih=>intro nn j;cases l <;> simp [putLs,lcount,L.n,ih,Nat.add_comm]
theorem putLs_gen (hg:T[g]?=some Y):∀ (ls:List L) (nn j:Nat) (ys:List Int),(∀ a∈args,a.ok nn)->lhas ls ys ->
  ∀ e:Nat->Int,(∀ (i:Nat) y,ys[i]?=some y->(Y.sem (args.map (·.ev e))).getD (j+i) 0=y)->GenOk T e nn (putLs g args nn j ls).1:=by
 intro ls
 induction ls with
 | nil=>intro nn j ys _ h e _;trivial
 | cons l ls ih =>
  intro nn j ys hok hh e hy
  have tail:∀ (x:Int) (ys:List Int),lhas ls ys->(∀ (i:Nat) y,(x::ys)[i]?=some y->(Y.sem (args.map (·.ev e))).getD (j+i) 0=y)->∀ v:Int,GenOk T (upd e nn v) (nn+1) (putLs g args (nn+1) (j+1) ls).1:=by
   intro x ys hls hyy v
   have he:∀ i,i<nn->upd e nn v i=e i:=fun i hi=>by simp [upd];omega
   exact ih (nn+1) (j+1) ys (fun a ha=>A.ok_mono (hok a ha) (by omega)) hls (upd e nn v) (fun i y hi=>by
    rw [map_ev_congr hok he]
    have:=hyy (i+1) y (by simpa using hi)
    rwa [show j+(i+1)=j+1+i by omega] at this)
  cases l with
  | cst c=>exact ih nn j ys hok hh e hy
  | int k=>cases ys with
   | nil=>cases hh
   | cons y ys =>
    have h0:=hy 0 y rfl
    simp only [Nat.add_zero] at h0
    have hev:(D.app g j args).ev T e=y:=by simp only [D.ev,hg];exact h0
    exact ⟨hok,by rw [hev];exact hh.1,by rw [hev];exact tail y ys hh.2 hy y⟩
  | bool=>cases ys with
   | nil=>cases hh
   | cons y ys =>
    have h0:=hy 0 y rfl
    simp only [Nat.add_zero] at h0
    have hev:(D.app g j args).ev T e=y:=by simp only [D.ev,hg];exact h0
    exact ⟨hok,by rw [hev];exact hh.1,by rw [hev];exact tail y ys hh.2 hy y⟩
  | num=>cases ys with
   | nil=>cases hh
   | cons y ys =>
    have h0:=hy 0 y rfl
    simp only [Nat.add_zero] at h0
    have hev:(D.app g j args).ev T e=y:=by simp only [D.ev,hg];exact h0
    exact ⟨hok,by rw [hev];exact hh.1,by rw [hev];exact tail y ys hh.2 hy y⟩
  | lst k=>cases ys with
   | nil=>cases hh
   | cons y ys =>
    have h0:=hy 0 y rfl
    simp only [Nat.add_zero] at h0
    have hev:(D.app g j args).ev T e=y:=by simp only [D.ev,hg];exact h0
    exact ⟨hok,by rw [hev];exact hh.1,by rw [hev];exact tail y ys hh.2 hy y⟩
theorem putLs_val (hg:T[g]?=some Y) {m:M} {nv:Nat} {al:Nat->Bool}:∀ (ls:List L) (nn j:Nat) (ys:List Int),lhas ls ys->(∀ (i:Nat) y,ys[i]?=some y->(Y.sem (args.map (·.ev m.env))).getD (j+i) 0=y) ->
  Told T m.env nn (putLs g args nn j ls).1->nn+lcount ls<=nv->Rels m nv al (putLs g args nn j ls).2 (lvals ls ys):=by
 intro ls
 induction ls with
 | nil=>intro nn j ys _ _ _ _;trivial
 | cons l ls ih =>
  intro nn j ys hh hy ht hle
  have tail:∀ (kk:KK) (y:Int) (ys:List Int),lhas ls ys->(∀ (i:Nat) z,(y::ys)[i]?=some z->(Y.sem (args.map (·.ev m.env))).getD (j+i) 0=z)->Told T m.env nn ((kk,D.app g j args)::(putLs g args (nn+1) (j+1) ls).1) ->
    nn+1+lcount ls<=nv->m.env nn=y/\Rels m nv al (putLs g args (nn+1) (j+1) ls).2 (lvals ls ys):=by
   intro kk y ys hls hyy ht hle
   have h1:=(ht 0 _ _ rfl).1
   have h0:=hyy 0 y rfl
   simp only [Nat.add_zero] at h1 h0
   refine ⟨by rw [h1];simp only [D.ev,hg];exact h0,ih (nn+1) (j+1) ys hls (fun i z hi=>?_) (fun i kk d hi=>?_) hle⟩
   ·have:=hyy (i+1) z (by simpa using hi)
    rwa [show j+(i+1)=j+1+i by omega] at this
   ·have:=ht (i+1) kk d (by simpa using hi)
    rwa [show nn+(i+1)=nn+1+i by omega] at this
  cases l with
  | cst c=>exact ⟨cst_rel c,ih nn j ys hh hy ht (by simpa [lcount,L.n] using hle)⟩
  | int k=>cases ys with
   | nil=>cases hh
   | cons y ys =>
    have hle':nn+1+lcount ls<=nv:=by simp [lcount,L.n] at hle;omega
    obtain ⟨h2,h3⟩:=tail (.int k) y ys hh.2 hy ht hle'
    exact ⟨⟨⟨show nn<nv by omega,trivial⟩,by simp only [A.ev,h2];exact hh.1,by simp only [A.ev,h2]⟩,h3⟩
  | bool=>cases ys with
   | nil=>cases hh
   | cons y ys =>
    have hle':nn+1+lcount ls<=nv:=by simp [lcount,L.n] at hle;omega
    obtain ⟨h2,h3⟩:=tail .bit y ys hh.2 hy ht hle'
    exact ⟨⟨⟨show nn<nv by omega,trivial⟩,by simp only [A.ev,h2];exact hh.1,by simp only [A.ev,h2]⟩,h3⟩
  | num=>cases ys with
   | nil=>cases hh
   | cons y ys =>
    have hle':nn+1+lcount ls<=nv:=by simp [lcount,L.n] at hle;omega
    obtain ⟨h2,h3⟩:=tail .num y ys hh.2 hy ht hle'
    have hl:∀ q:Nat,C.rel m nv al (.int .u64 (.limb nn q)) (.int .u64 (y/p64 q%18446744073709551616)):=by
     intro q
     refine ⟨⟨show nn<nv by omega,by simp only [A.good,h2];exact hh.1⟩,?_,by simp only [A.ev,h2]⟩
     simp only [A.ev,has,lo,hi];omega
    exact Rels.append (vs:=limbs y) ⟨hl 0,hl 1,hl 2,hl 3,hl 4,hl 5,trivial⟩ h3
  | lst k=>cases ys with
   | nil=>cases hh
   | cons y ys =>
    have hle':nn+1+lcount ls<=nv:=by simp [lcount,L.n] at hle;omega
    exact (tail (.lst k) y ys hh.2 hy ht hle').2
end
section
variable {T:List K} {g:Nat} {Y:K} {args:List A} {nid n0:Nat} {w':World}
theorem take_get {ys:List Int} {n i:Nat} {y:Int} (h:(ys.take n)[i]?=some y):ys[i]?=some y:=by
 rw [List.getElem?_take] at h
 split at h
 ·exact h
 ·cases h
theorem putOuts_gen (hg:T[g]?=some Y):∀ (os:List Oh) (nn j:Nat) (ds:Defs) (vs:List V) (nb:Option Box),putOuts g args nn j nid os=some (ds,vs,nb) ->
  ∀ (ys:List Int) (us:List Value),(∀ a∈args,a.ok nn)->outsRel n0 w' os ys us->∀ e:Nat->Int,(∀ (i:Nat) y,ys[i]?=some y->(Y.sem (args.map (·.ev e))).getD (j+i) 0=y)->GenOk T e nn ds:=by
 intro os
 induction os with
 | nil=>intro nn j ds vs nb h ys us _ hr e _;simp [putOuts] at h;obtain ⟨rfl,rfl,rfl⟩:=h;trivial
 | cons o os ih =>
  intro nn j ds vs nb h ys us hok hr e hy
  cases us with
  | nil=>cases hr
  | cons u us =>
   obtain ⟨hr1,hr2,hr3⟩:=hr
   have head:=putLs_gen (g:=g) hg o.leaves nn j (ys.take (lcount o.leaves)) hok hr1 e (fun i y hi=>hy i y (take_get hi))
   have tail:∀ {q1:Defs} {q2:List V} {q3:Option Box},putOuts g args (nn+lcount o.leaves) (j+lcount o.leaves) nid os=some (q1,q2,q3) ->
     ∀ e1:Nat->Int,(∀ i,i<nn->e1 i=e i)->GenOk T e1 (nn+lcount o.leaves) q1:=by
    intro q1 q2 q3 hq e1 he1
    refine ih _ _ _ _ _ hq _ _ (fun a ha=>A.ok_mono (hok a ha) (by omega)) hr3 e1 fun i y hi=>?_
    rw [map_ev_congr hok he1]
    have:=hy (lcount o.leaves+i) y (by rw [List.getElem?_drop] at hi;exact hi)
    rwa [<- Nat.add_assoc] at this
   cases o with
   | one l =>
    simp only [putOuts] at h
    split at h
    ·cases h
    ·rename_i q hq
     obtain ⟨q1,q2,q3⟩:=q
     split at h
     ·simp at h
      obtain ⟨rfl,rfl,rfl⟩:=h
      refine gen_append _ _ _ _ head fun e1 he1 _=>?_
      rw [show (putLs g args nn j [l]).1.length=lcount [l] from putLs_length ..];exact tail hq e1 he1
     ·cases h
   | agg ls =>
    simp only [putOuts] at h
    split at h
    ·cases h
    ·rename_i q hq
     obtain ⟨q1,q2,q3⟩:=q
     simp at h
     obtain ⟨rfl,rfl,rfl⟩:=h
     refine gen_append _ _ _ _ head fun e1 he1 _=>?_
     rw [show (putLs g args nn j ls).1.length=lcount ls from putLs_length ..];exact tail hq e1 he1
   | box e0 ls =>
    simp only [putOuts] at h
    split at h
    ·cases h
    ·rename_i q hq
     obtain ⟨q1,q2,q3⟩:=q
     simp only at h
     cases q3 with
     | none =>
      simp at h
      obtain ⟨rfl,rfl,rfl⟩:=h
      refine gen_append _ _ _ _ head fun e1 he1 _=>?_
      rw [show (putLs g args nn j ls).1.length=lcount ls from putLs_length ..];exact tail hq e1 he1
     | some z=>cases h
   | lst e0 k =>
    simp only [putOuts] at h
    split at h
    ·cases h
    ·rename_i q hq
     obtain ⟨q1,q2,q3⟩:=q
     simp only at h
     cases q3 with
     | none =>
      simp at h
      obtain ⟨rfl,rfl,rfl⟩:=h
      refine gen_append _ _ _ _ head fun e1 he1 _=>?_
      rw [show (putLs g args nn j [.lst k]).1.length=lcount [.lst k] from putLs_length ..];exact tail hq e1 he1
     | some z=>cases h
   | lent e0 k =>
    simp only [putOuts] at h
    split at h
    ·cases h
    ·rename_i q hq
     obtain ⟨q1,q2,q3⟩:=q
     simp only at h
     cases q3 with
     | none =>
      simp at h
      obtain ⟨rfl,rfl,rfl⟩:=h
      refine gen_append _ _ _ _ head fun e1 he1 _=>?_
      rw [show (putLs g args nn j [.lst k,.int .i64]).1.length=lcount [.lst k,.int .i64] from putLs_length ..];exact tail hq e1 he1
     | some z=>cases h
def NewBox (n0:Nat) (w':World) (m:M) (nv:Nat) (al:Nat->Bool) (b:Nat) (vb:Value) (bx:Box):Prop :=
 (bx.own=true/\bx.row=none/\n0<=b/\∃ zs:List Value,w'.heap[b]?=some (.cells zs.toArray bx.elem (0,0))/\Rels m nv al bx.cells zs) ∨
 ∃ r:Row,bx=rowBox r/\r.own=true/\r.x.wf nv m.env/\r.x0=r.x/\r.k.hasL (dec (r.x.ev m.env))/\w'.ownsRow n0 r.elem r.k.sz vb (dec (r.x.ev m.env)).length (flat r.k (dec (r.x.ev m.env)))/\(r.full=true->fullV vb)
theorem owns_form {w:World} {n0:Nat} {e:TypeId} {s:Nat} {v:Value} {n:Nat} {xs:List Value} (h:w.ownsRow n0 e s v n xs):∃ b cap,v=.slice b n cap:=by
 rcases h.2 with ⟨hv,hn⟩ | ⟨g,cap,cur,hv,_⟩
 ·exact ⟨none,0,by rw [hv,hn]⟩
 ·exact ⟨_,cap,hv⟩
theorem putOuts_val (hg:T[g]?=some Y) {m:M} {nv:Nat} {al:Nat->Bool}:∀ (os:List Oh) (nn j:Nat) (ds:Defs) (vs:List V) (nb:Option Box),putOuts g args nn j nid os=some (ds,vs,nb) ->
  ∀ (ys:List Int) (us:List Value),outsRel n0 w' os ys us->(∀ (i:Nat) y,ys[i]?=some y->(Y.sem (args.map (·.ev m.env))).getD (j+i) 0=y) ->
  Told T m.env nn ds->nn+ds.length<=nv ->
   ∃ b vb,(∀ bx,nb=some bx->NewBox n0 w' m nv al b vb bx) /\
    ∀ (m'':M) (al'':Nat->Bool),MExt m nv al m'' nv al''->(∀ bx,nb=some bx->al'' nid=true/\(bx.own=true->m''.rho nid=(b,0))/\(bx.own=false->m''.sv nid=vb))->VRels m'' nv al'' vs us:=by
 intro os
 induction os with
 | nil =>
  intro nn j ds vs nb h ys us hr _ _ _
  simp [putOuts] at h
  obtain ⟨rfl,rfl,rfl⟩:=h
  obtain ⟨_,rfl⟩:=hr
  exact ⟨0,.nilFunc,(fun bx h=>by cases h),fun m'' al'' _ _=>trivial⟩
 | cons o os ih =>
  intro nn j ds vs nb h ys us hr hy ht hle
  cases us with
  | nil=>cases hr
  | cons u us =>
   obtain ⟨hr1,hr2,hr3⟩:=hr
   have head:=putLs_val (g:=g) hg (m:=m) (nv:=nv) (al:=al) o.leaves nn j (ys.take (lcount o.leaves)) hr1 (fun i y hi=>hy i y (take_get hi))
   have tail:∀ {q1:Defs} {q2:List V} {q3:Option Box},putOuts g args (nn+lcount o.leaves) (j+lcount o.leaves) nid os=some (q1,q2,q3) ->
     Told T m.env (nn+lcount o.leaves) q1->nn+lcount o.leaves+q1.length<=nv ->
     ∃ b vb,(∀ bx,q3=some bx->NewBox n0 w' m nv al b vb bx) /\
    ∀ (m'':M) (al'':Nat->Bool),MExt m nv al m'' nv al''->(∀ bx,q3=some bx->al'' nid=true/\(bx.own=true->m''.rho nid=(b,0))/\(bx.own=false->m''.sv nid=vb))->VRels m'' nv al'' q2 us:=by
    intro q1 q2 q3 hq ht1 hl1
    refine ih _ _ _ _ _ hq _ _ hr3 (fun i y hi=>?_) ht1 hl1
    have:=hy (lcount o.leaves+i) y (by rw [List.getElem?_drop] at hi;exact hi)
    rwa [<- Nat.add_assoc] at this
   cases o with
   | one l =>
    simp only [putOuts] at h
    split at h
    ·cases h
    ·rename_i q hq
     obtain ⟨q1,q2,q3⟩:=q
     split at h
     ·rename_i c hc
      simp at h
      obtain ⟨rfl,rfl,rfl⟩:=h
      have hlen:(putLs g args nn j [l]).1.length=lcount [l]:=putLs_length ..
      rw [Told.append,hlen] at ht
      rw [List.length_append,hlen] at hle
      obtain ⟨b,vb,hb1,hb2⟩:=tail hq ht.2 (by simp only [Oh.leaves];omega)
      refine ⟨b,vb,hb1,fun m'' al'' hx hn=>⟨?_,hb2 m'' al'' hx hn⟩⟩
      have h1:=head ht.1 (by simp only [Oh.leaves];omega)
      simp only [Oh.leaves] at h1
      rw [hc] at h1
      simp only [Oh.rel] at hr2
      simp only [Oh.leaves] at hr2
      rw [<- hr2] at h1
      exact C.rel_mono hx h1.1
     ·cases h
   | agg ls =>
    simp only [putOuts] at h
    split at h
    ·cases h
    ·rename_i q hq
     obtain ⟨q1,q2,q3⟩:=q
     simp at h
     obtain ⟨rfl,rfl,rfl⟩:=h
     have hlen:(putLs g args nn j ls).1.length=lcount ls:=putLs_length ..
     rw [Told.append,hlen] at ht
     rw [List.length_append,hlen] at hle
     obtain ⟨b,vb,hb1,hb2⟩:=tail hq ht.2 (by simp only [Oh.leaves];omega)
     refine ⟨b,vb,hb1,fun m'' al'' hx hn=>⟨?_,hb2 m'' al'' hx hn⟩⟩
     have h1:=head ht.1 (by simp only [Oh.leaves];omega)
     exact ⟨_,hr2,h1.mono hx⟩
   | box e0 ls =>
    simp only [putOuts] at h
    split at h
    ·cases h
    ·rename_i q hq
     obtain ⟨q1,q2,q3⟩:=q
     simp only at h
     cases q3 with
     | none =>
      simp at h
      obtain ⟨rfl,rfl,rfl⟩:=h
      have hlen:(putLs g args nn j ls).1.length=lcount ls:=putLs_length ..
      rw [Told.append,hlen] at ht
      rw [List.length_append,hlen] at hle
      obtain ⟨_,_,_,hb2⟩:=tail hq ht.2 (by simp only [Oh.leaves];omega)
      obtain ⟨b,hb0,hu,hh⟩:=hr2
      have h1:=head ht.1 (by simp only [Oh.leaves];omega)
      refine ⟨b,.nilFunc,fun bx hec=>?_,fun m'' al'' hx hn=>⟨?_,hb2 m'' al'' hx (fun _ h=>by cases h)⟩⟩
      ·simp at hec
       subst hec
       exact .inl ⟨rfl,rfl,hb0,_,hh,h1⟩
      ·obtain ⟨g1,g2,_⟩:=hn _ rfl
       exact ⟨g1,by rw [hu];simp [M.at,g2 rfl]⟩
     | some z=>cases h
   | lst e0 k =>
    simp only [putOuts] at h
    split at h
    ·cases h
    ·rename_i q hq
     obtain ⟨q1,q2,q3⟩:=q
     simp only at h
     cases q3 with
     | none =>
      simp at h
      obtain ⟨rfl,rfl,rfl⟩:=h
      have hlen:(putLs g args nn j [.lst k]).1.length=lcount [.lst k]:=putLs_length ..
      rw [Told.append,hlen] at ht
      rw [List.length_append,hlen] at hle
      obtain ⟨_,_,_,hb2⟩:=tail hq ht.2 (by simp only [Oh.leaves];omega)
      simp only [Oh.leaves] at hr1 hr2
      have hone:lcount [L.lst k]=1:=rfl
      rw [hone] at hr1 hle
      simp only [Oh.rel,hone] at hr2
      cases ys with
      | nil=>cases hr1
      | cons y ys =>
       simp only [List.take_succ_cons,List.take_zero,List.headD_cons] at hr1 hr2
       have h0:m.env nn=y:=by
        have h1:=(ht.1 0 _ _ rfl).1
        simp only [Nat.add_zero] at h1
        rw [h1];simp only [D.ev,hg];exact hy 0 y rfl
       obtain ⟨bb,cap,hform⟩:=owns_form hr2
       refine ⟨0,u,fun bx hec=>?_,fun m'' al'' hx hn=>⟨?_,hb2 m'' al'' hx (fun _ h=>by cases h)⟩⟩
       ·simp at hec
        subst hec
        refine .inr ⟨_,rfl,rfl,⟨show nn<nv by omega,trivial⟩,rfl,?_,?_,fun h=>by cases h⟩
        ·simp only [A.ev,h0];exact hr1.1
        ·simp only [A.ev,h0];exact hr2
       ·obtain ⟨g1,_,g3⟩:=hn _ rfl
        exact ⟨g1,(g3 rfl).symm,by rw [hform];rfl⟩
     | some z=>cases h
   | lent e0 k =>
    simp only [putOuts] at h
    split at h
    ·cases h
    ·rename_i q hq
     obtain ⟨q1,q2,q3⟩:=q
     simp only at h
     cases q3 with
     | none =>
      simp at h
      obtain ⟨rfl,rfl,rfl⟩:=h
      have hlen:(putLs g args nn j [.lst k,.int .i64]).1.length=lcount [.lst k,.int .i64]:=putLs_length ..
      rw [Told.append,hlen] at ht
      rw [List.length_append,hlen] at hle
      obtain ⟨_,_,_,hb2⟩:=tail hq ht.2 (by simp only [Oh.leaves];omega)
      simp only [Oh.leaves] at hr1 hr2
      have hone:lcount [L.lst k,.int .i64]=2:=rfl
      rw [hone] at hr1 hle
      simp only [Oh.rel,hone] at hr2
      match ys,hr1,hr2,hy with
      | [],hr1,_,_=>cases hr1
      | [y],hr1,_,_=>exact hr1.2.elim
      | y::y1::ys,hr1,hr2,hy =>
       simp only [List.take_succ_cons,List.take_zero,List.headD_cons,List.getD_cons_succ,List.getD_cons_zero] at hr1 hr2
       have h0:m.env nn=y:=by
        have h1:=(ht.1 0 _ _ rfl).1
        simp only [Nat.add_zero] at h1
        rw [h1];simp only [D.ev,hg];exact hy 0 y rfl
       have h1:m.env (nn+1)=y1:=by
        have h1:=(ht.1 1 _ _ rfl).1
        rw [h1];simp only [D.ev,hg];exact hy 1 y1 rfl
       obtain ⟨v',o1,o2,o3,o4⟩:=hr2
       obtain ⟨bb,cap,hform⟩:=owns_form o1
       have hbig:=hr1.2.1
       simp only [has,lo,hi] at hbig
       refine ⟨0,v',fun bx hec=>?_,fun m'' al'' hx hn=>⟨?_,hb2 m'' al'' hx (fun _ h=>by cases h)⟩⟩
       ·simp at hec
        subst hec
        refine .inr ⟨_,rfl,rfl,⟨show nn<nv by omega,trivial⟩,rfl,?_,?_,fun _=>o2⟩
        ·simp only [A.ev,h0];exact hr1.1
        ·simp only [A.ev,h0];exact o1
       ·obtain ⟨g1,_,g3⟩:=hn _ rfl
        have g3:=g3 rfl
        have he:m''.env (nn+1)=y1:=by rw [hx.env _ (by omega)];exact h1
        refine ⟨g1,⟨trivial,trivial⟩,⟨show nn+1<nv by omega,trivial⟩,?_,?_,?_⟩
        ·simp only [A.ev,he,g3]
         rw [hform]
         exact ⟨Int.le_refl _,o3.1,o3.2,hbig.2⟩
        ·simp only [A.ev,he,g3];exact o4
        ·rw [o4];exact sub_one (by rw [hform];rfl)
     | some z=>cases h
theorem putK_cases {Y:K} {g:Nat} {args:List A} {nn nid:Nat} {q:Defs×List V×Option Box} (h:putK Y g args nn nid=some q) :
  putOuts g args nn 0 nid Y.outs=some q∨∃ k xs,Y.outs=[.one (.int k)]/\mapO A.lit? args=some xs/\hasB k ((Y.sem xs).getD 0 0)=true/\q=([],[V.one (.int k (.lit ((Y.sem xs).getD 0 0)))],none):=by
 unfold putK at h
 split at h
 ·rename_i k xs _ ho hx
  split at h
  ·rename_i hb
   cases h
   exact .inr ⟨k,xs,ho,hx,hb,rfl⟩
  ·exact .inl h
 ·exact .inl h
theorem putK_gen (hg:T[g]?=some Y) {nn:Nat} {ds:Defs} {vs:List V} {nb:Option Box} (h:putK Y g args nn nid=some (ds,vs,nb))
  (ys:List Int) (us:List Value) (ha:∀ a∈args,a.ok nn) (ho:outsRel n0 w' Y.outs ys us) (e:Nat->Int) (hy:∀ (i:Nat) y,ys[i]?=some y->(Y.sem (args.map (·.ev e))).getD (0+i) 0=y):GenOk T e nn ds:=by
 rcases putK_cases h with h | ⟨k,xs,_,_,_,hq⟩
 ·exact putOuts_gen (T:=T) hg _ _ _ _ _ _ h ys us ha ho e hy
 ·cases hq;trivial
theorem putK_val (hg:T[g]?=some Y) {m:M} {nv:Nat} {al:Nat->Bool} {nn:Nat} {ds:Defs} {vs:List V} {nb:Option Box} (h:putK Y g args nn nid=some (ds,vs,nb))
  (ys:List Int) (us:List Value) (hr:outsRel n0 w' Y.outs ys us) (hy:∀ (i:Nat) y,ys[i]?=some y->(Y.sem (args.map (·.ev m.env))).getD (0+i) 0=y)
  (ht:Told T m.env nn ds) (hle:nn+ds.length<=nv) :
   ∃ b vb,(∀ bx,nb=some bx->NewBox n0 w' m nv al b vb bx) /\
    ∀ (m'':M) (al'':Nat->Bool),MExt m nv al m'' nv al''->(∀ bx,nb=some bx->al'' nid=true/\(bx.own=true->m''.rho nid=(b,0))/\(bx.own=false->m''.sv nid=vb))->VRels m'' nv al'' vs us:=by
 rcases putK_cases h with h | ⟨k,xs,ho,hx,hb,hq⟩
 ·exact putOuts_val (T:=T) hg _ _ _ _ _ _ h ys us hr hy ht hle
 ·cases hq
  refine ⟨0,.nilFunc,(fun bx h=>by cases h),fun m'' al'' _ _=>?_⟩
  rw [ho] at hr
  cases us with
  | nil=>exact hr.elim
  | cons u us =>
   obtain ⟨h1,h2,h3⟩:=hr
   obtain ⟨h4,rfl⟩:=h3
   cases ys with
   | nil=>exact h1.elim
   | cons y ys =>
    have hy0:(Y.sem (args.map (·.ev m.env))).getD 0 0=y:=hy 0 y rfl
    rw [lits_ok m.env _ _ hx] at hy0
    have h5:[u]=[Value.int k y]:=h2
    refine ⟨⟨⟨trivial,trivial⟩,?_,?_⟩,trivial⟩
    ·exact hasB_has hb
    ·show u=.int k _
     rw [show (A.lit ((Y.sem xs).getD 0 0)).ev m''.env=(Y.sem xs).getD 0 0 from rfl,hy0]
     exact List.head_eq_of_cons_eq h5
end
end Go.Sx
