/- Part Nd of the proof. -/
import Derived.Test.YtjkkfifojkfnjaaGreatDoorNc
import Derived.Test.YtjkkfifojkfnjaaGreatDoorNb
import Derived.Deep.Slices
set_option linter.unusedVariables false
set_option linter.unusedSimpArgs false
namespace Go.Sx
open Go Go.RowKit
section
variable {P:Program} {T:List K} {w0:World} {m:M} {Y:St} {a:Act} {w:World} {o:Oper} {nn nid:Nat} {p:Plan}
theorem bounds_opt (h:Rep w0 m Y a w) {lo:Option Operand} {l:Option Nat} (hl:bndOf Y lo=some l) :
  (∀ v,lo.map a.eval=some v->∃ n k,l=some n/\v=.int k (n:Int))/\(lo.map a.eval=none->l=none):=by
 unfold bndOf at hl
 cases lo with
 | none=>simp at hl;subst hl;simp
 | some x =>
  simp only at hl
  cases hi:idx Y x with
  | none=>simp [hi] at hl
  | some n =>
   simp [hi] at hl
   subst hl
   obtain ⟨k,hk⟩:=idx_int h hi
   refine ⟨fun v hv=>?_,by simp⟩
   simp at hv
   exact ⟨n,k,rfl,by rw [<- hv,hk]⟩
theorem at_slice (m:M) (id off l s:Nat) (b:Prop) [Decidable b]:(if b then m.at id off else (m.at id off).add (l*s))=m.at id (if b then off else off+l*s):=by
 split
 ·rfl
 ·rw [at_add]
theorem bndA_ok (h:Rep w0 m Y a w) {o:Option Operand} {l:Option A} (hl:bndA Y o=some l) :
  (∀ v,o.map a.eval=some v->∃ y k,l=some y/\y.wf Y.nv m.env/\v=.int k (y.ev m.env))/\(o.map a.eval=none->l=none):=by
 unfold bndA at hl
 cases o with
 | none=>simp at hl;subst hl;simp
 | some x =>
  simp only at hl
  split at hl
  ·rename_i k y hc
   cases hl
   have h1:=h.cell hc
   refine ⟨fun v hv=>?_,by simp⟩
   simp at hv
   exact ⟨y,k,rfl,h1.1,by rw [<- hv,h1.2.2]⟩
  ·cases hl
theorem bit_yes {b:Prop} [Decidable b] (h:b2i (decide b)≠0):b:=by
 by_cases hc:b
 ·exact hc
 ·simp [hc,b2i] at h
theorem part_pure {t e:TypeId} {x:Operand} {lo hi:Option Operand} (h:Rep w0 m Y a w) (ho:o.op=.slice t x lo hi none) (hu:P.underlying t=some (.slice e)) {id:Nat} {r:Row} {s:Nat} (hr:Y.row id=some r)
  (hs:szOf P e=some s) (hsz:s=r.k.sz) {l h':Option A} (hl:bndA Y lo=some l) (hh:bndA Y hi=some h') {d:A} {n:Nat} (hd:hi=none->d.wf Y.nv m.env/\d.ev m.env=(n:Int))
  {b:Option Addr} {n0 cap:Nat} (hv:a.eval x=.slice b n cap) (hsv:m.sv id=.slice b n0 cap) (hp:partP nn id r (l.getD (.lit 0)) (h'.getD d)=.ok p)
  (hdf:DefsOk T m.env Y.nv nn p.defs) (hz:∀ x∈p.nz,x.ev m.env≠0):PureOk P m Y a w o p.val:=by
 obtain ⟨q1,q2,q5,q6,q3⟩:=h.row_ok hr
 unfold partP at hp
 cases hp
 have hlv:=q3.lenV
 rw [hsv] at hlv
 have hlv:n0=(dec (A.ev m.env r.x)).length:=hlv
 have hcap:n0<=cap:=by
  rcases q3.form with ⟨f1,f2⟩ | ⟨ad,c,f1,f2⟩
  ·rw [f2] at hlv;simp at hlv;omega
  ·rw [hsv] at f1;cases f1;exact f2
 have hbig:=q3.1.1
 obtain ⟨bl1,bl2⟩:=bndA_ok h hl
 obtain ⟨bh1,bh2⟩:=bndA_ok h hh
 generalize hlo:l.getD (.lit 0)=loA at *
 generalize hhi:h'.getD d=hiA at *
 have d0:m.env nn=(n0:Int):=by
  have:=(hdf.2 0 _ _ rfl).1
  simpa [D.ev,q6,<- hlv] using this
 have d1:m.env (nn+1)=b2i (decide (0<=loA.ev m.env)):=(hdf.2 1 _ _ rfl).1
 have d2:m.env (nn+2)=b2i (decide (loA.ev m.env<=hiA.ev m.env)):=(hdf.2 2 _ _ rfl).1
 have d3:m.env (nn+3)=b2i (decide (hiA.ev m.env<=m.env nn)):=(hdf.2 3 _ _ rfl).1
 have z1:0<=loA.ev m.env:=bit_yes (by rw [<- d1];exact hz (.var (nn+1)) (by simp))
 have z2:loA.ev m.env<=hiA.ev m.env:=bit_yes (by rw [<- d2];exact hz (.var (nn+2)) (by simp))
 have z3:hiA.ev m.env<=m.env nn:=bit_yes (by rw [<- d3];exact hz (.var (nn+3)) (by simp))
 rw [d0] at z3
 obtain ⟨x0,hx0⟩:=Int.eq_ofNat_of_zero_le z1
 obtain ⟨x1,hx1⟩:=Int.eq_ofNat_of_zero_le (Int.le_trans z1 z2)
 rw [hx0,hx1] at z2
 rw [hx1] at z3
 have wlo:loA.wf Y.nv m.env/\(lo=none->l=none/\x0=0):=by
  cases lo with
  | none =>
   have:=bl2 rfl
   subst this
   simp at hlo;subst hlo
   exact ⟨⟨trivial,trivial⟩,fun _=>⟨rfl,by simp [A.ev] at hx0;omega⟩⟩
  | some z =>
   obtain ⟨y,k,e1,e2,_⟩:=bl1 _ rfl
   subst e1
   simp at hlo;subst hlo
   exact ⟨e2,fun h=>by cases h⟩
 have whi:hiA.wf Y.nv m.env/\(hi=none->h'=none/\x1=n):=by
  cases hi with
  | none =>
   have:=bh2 rfl
   subst this
   simp at hhi;subst hhi
   obtain ⟨e1,e2⟩:=hd rfl
   exact ⟨e1,fun _=>⟨rfl,by rw [e2] at hx1;omega⟩⟩
  | some z =>
   obtain ⟨y,k,e1,e2,_⟩:=bh1 _ rfl
   subst e1
   simp at hhi;subst hhi
   exact ⟨e2,fun h=>by cases h⟩
 have hsb:=run_sliceBounds (P:=P) (w:=w) (b:=true) (len:=n) (cap:=cap) (lo:=lo.map a.eval) (hi:=hi.map a.eval) (l:=lo.map fun _=>x0) (h:=hi.map fun _=>x1)
  (fun v hv=>by
   cases lo with
   | none=>cases hv
   | some z =>
    obtain ⟨y,k,e1,e2,e3⟩:=bl1 v hv
    subst e1
    simp at hlo;subst hlo
    exact ⟨x0,k,rfl,by rw [e3,hx0]⟩)
  (fun e=>by cases lo with | none=>rfl | some z=>cases e)
  (fun v hv=>by
   cases hi with
   | none=>cases hv
   | some z =>
    obtain ⟨y,k,e1,e2,e3⟩:=bh1 v hv
    subst e1
    simp at hhi;subst hhi
    exact ⟨x1,k,rfl,by rw [e3,hx1]⟩)
  (fun e=>by cases hi with | none=>rfl | some z=>cases e)
  (by cases hi with
   | none=>have:=(whi.2 rfl).2;simp;omega
   | some z=>simp;omega)
  (by
   have e1:(lo.map fun _=>x0).getD 0=x0:=by cases lo with | none=>exact (wlo.2 rfl).2.symm | some z=>rfl
   have e2:(hi.map fun _=>x1).getD n=x1:=by cases hi with | none=>exact (whi.2 rfl).2.symm | some z=>rfl
   rw [e1,e2];omega)
 have e1:(lo.map fun _=>x0).getD 0=x0:=by cases lo with | none=>exact (wlo.2 rfl).2.symm | some z=>rfl
 have e2:(hi.map fun _=>x1).getD n=x1:=by cases hi with | none=>exact (whi.2 rfl).2.symm | some z=>rfl
 rw [e1,e2] at hsb
 refine ⟨subV r.k.sz (m.sv id) x0 x1,?_,q1,wlo.1,whi.1,⟨z1,by rw [hx0,hx1];exact z2,by rw [hsv,hx1];exact z3,by omega⟩,.inl (by rw [hx0,hx1];rfl),sub_one (by rw [hsv];rfl)⟩
 rw [hsv,<- hsz]
 simp only [execOp,ho,hv,Instr.sliceAt,Instr.slice,subV]
 simp [run_underlying hu,hsb,run_sizeOf hs]
theorem view_pure {t e:TypeId} {x:Operand} {lo hi:Option Operand} (h:Rep w0 m Y a w) (ho:o.op=.slice t x lo hi none) (hu:P.underlying t=some (.slice e)) {id:Nat} {r:Row} {s:Nat} (hr:Y.row id=some r)
  (hs:szOf P e=some s) (hsz:s=r.k.sz) {l h':Option A} (hl:bndA Y lo=some l) (hh:bndA Y hi=some h') {lo' hi':A} (hx:C.rel m Y.nv Y.al (.slv id lo' hi' r.k) (a.eval x))
  (hp:partV nn id r lo' hi' (l.getD (.lit 0)) h'=.ok p) (hdf:DefsOk T m.env Y.nv nn p.defs) (hz:∀ x∈p.nz,x.ev m.env≠0):PureOk P m Y a w o p.val:=by
 obtain ⟨c1,c2,c3,c4,c5,c6⟩:=hx
 obtain ⟨q1,q2,q5,q6,q3⟩:=h.row_ok hr
 unfold partV at hp
 cases hp
 have hlv:=q3.lenV
 obtain ⟨b,cap,hsv⟩:=q3.len
 rw [q3.lenV] at c4
 have hbig:=q3.1.1
 generalize hn0:(dec (A.ev m.env r.x)).length=n0 at *
 have hcap:n0<=cap/\(b=none->cap=0):=by
  rcases q3.form with ⟨f1,f2⟩ | ⟨ad,c,f1,f2⟩
  ·rw [f1] at hsv;rw [f2] at hn0
   cases hsv
   exact ⟨by simp at hn0;omega,fun _=>rfl⟩
  ·rw [hn0] at f1 f2
   rw [hsv] at f1;cases f1;exact ⟨f2,fun e=>by cases e⟩
 obtain ⟨bl1,bl2⟩:=bndA_ok h hl
 obtain ⟨bh1,bh2⟩:=bndA_ok h hh
 have hlen:nn+8<=Y.nv:=by have:=hdf.1;simp only [List.length_cons,List.length_nil] at this;omega
 generalize hlo:l.getD (.lit 0)=loA at *
 generalize hhi:h'.getD (.var (nn+2))=hiA at *
 have d0:m.env nn=(n0:Int):=by
  have:=(hdf.2 0 _ _ rfl).1
  simpa [D.ev,q6,hn0] using this
 have d1:m.env (nn+1)=wr .i64 (m.env nn-lo'.ev m.env):=(hdf.2 1 _ _ rfl).1
 have d2:m.env (nn+2)=wr .i64 (hi'.ev m.env-lo'.ev m.env):=(hdf.2 2 _ _ rfl).1
 have d3:m.env (nn+3)=b2i (decide (0<=loA.ev m.env)):=(hdf.2 3 _ _ rfl).1
 have d4:m.env (nn+4)=b2i (decide (loA.ev m.env<=hiA.ev m.env)):=(hdf.2 4 _ _ rfl).1
 have d5:m.env (nn+5)=b2i (decide (hiA.ev m.env<=m.env (nn+1))):=(hdf.2 5 _ _ rfl).1
 have d6:m.env (nn+6)=wr .i64 (lo'.ev m.env+loA.ev m.env):=(hdf.2 6 _ _ rfl).1
 have d7:m.env (nn+7)=wr .i64 (lo'.ev m.env+hiA.ev m.env):=(hdf.2 7 _ _ rfl).1
 have z1:0<=loA.ev m.env:=bit_yes (by rw [<- d3];exact hz (.var (nn+3)) (by simp))
 have z2:loA.ev m.env<=hiA.ev m.env:=bit_yes (by rw [<- d4];exact hz (.var (nn+4)) (by simp))
 have z3:hiA.ev m.env<=m.env (nn+1):=bit_yes (by rw [<- d5];exact hz (.var (nn+5)) (by simp))
 rw [d0,wr_id (by simp only [has,Sx.lo,Sx.hi];omega)] at d1
 rw [wr_id (by simp only [has,Sx.lo,Sx.hi];omega)] at d2
 rw [d1] at z3
 rw [wr_id (by simp only [has,Sx.lo,Sx.hi];omega)] at d6 d7
 obtain ⟨x0,hx0⟩:=Int.eq_ofNat_of_zero_le z1
 obtain ⟨x1,hx1⟩:=Int.eq_ofNat_of_zero_le (Int.le_trans z1 z2)
 obtain ⟨y0,hy0⟩:=Int.eq_ofNat_of_zero_le c4.1
 obtain ⟨y1,hy1⟩:=Int.eq_ofNat_of_zero_le (Int.le_trans c4.1 c4.2.1)
 rw [hx0,hx1] at z2
 rw [hx1,hy0] at z3
 rw [hy0,hx0] at d6
 rw [hy0,hx1] at d7
 rw [hy0,hy1] at d2 c4
 rw [hsv,hy0,hy1] at c5
 simp only [Int.toNat_natCast] at c5
 obtain ⟨⟨b',hv⟩,hview⟩:=view_sub (x0:=x0) (x1:=x1) hcap.2 hcap.1 (by omega) (by omega) c5 (by omega) (by omega)
 have wlo:loA.wf Y.nv m.env/\(lo=none->l=none/\x0=0):=by
  cases lo with
  | none =>
   have:=bl2 rfl
   subst this
   simp at hlo;subst hlo
   exact ⟨⟨trivial,trivial⟩,fun _=>⟨rfl,by simp [A.ev] at hx0;omega⟩⟩
  | some z =>
   obtain ⟨y,k,e1,e2,_⟩:=bl1 _ rfl
   subst e1
   simp at hlo;subst hlo
   exact ⟨e2,fun h=>by cases h⟩
 have whi:hi=none->h'=none/\x1=y1-y0:=by
  cases hi with
  | none =>
   have:=bh2 rfl
   subst this
   simp at hhi;subst hhi
   exact fun _=>⟨rfl,by simp only [A.ev] at hx1;omega⟩
  | some z=>exact fun h=>by cases h
 have hsb:=run_sliceBounds (P:=P) (w:=w) (b:=true) (len:=y1-y0) (cap:=cap-y0) (lo:=lo.map a.eval) (hi:=hi.map a.eval) (l:=lo.map fun _=>x0) (h:=hi.map fun _=>x1)
  (fun v hv=>by
   cases lo with
   | none=>cases hv
   | some z =>
    obtain ⟨y,k,e1,e2,e3⟩:=bl1 v hv
    subst e1
    simp at hlo;subst hlo
    exact ⟨x0,k,rfl,by rw [e3,hx0]⟩)
  (fun e=>by cases lo with | none=>rfl | some z=>cases e)
  (fun v hv=>by
   cases hi with
   | none=>cases hv
   | some z =>
    obtain ⟨y,k,e1,e2,e3⟩:=bh1 v hv
    subst e1
    simp at hhi;subst hhi
    exact ⟨x1,k,rfl,by rw [e3,hx1]⟩)
  (fun e=>by cases hi with | none=>rfl | some z=>cases e)
  (by cases hi with
   | none=>have:=(whi rfl).2;simp;omega
   | some z=>simp;omega)
  (by
   have e1:(lo.map fun _=>x0).getD 0=x0:=by cases lo with | none=>exact (wlo.2 rfl).2.symm | some z=>rfl
   have e2:(hi.map fun _=>x1).getD (y1-y0)=x1:=by cases hi with | none=>exact (whi rfl).2.symm | some z=>rfl
   rw [e1,e2];omega)
 have e1:(lo.map fun _=>x0).getD 0=x0:=by cases lo with | none=>exact (wlo.2 rfl).2.symm | some z=>rfl
 have e2:(hi.map fun _=>x1).getD (y1-y0)=x1:=by cases hi with | none=>exact (whi rfl).2.symm | some z=>rfl
 rw [e1,e2] at hsb
 have whi2:((h'.map fun _=>A.var (nn+7)).getD hi').wf Y.nv m.env/\((h'.map fun _=>A.var (nn+7)).getD hi').ev m.env=((y0+x1:Nat):Int):=by
  cases h' with
  | none =>
   simp at hhi;subst hhi
   refine ⟨c3,?_⟩
   show hi'.ev m.env=_
   simp only [A.ev] at hx1
   omega
  | some y=>exact ⟨⟨by show nn+7<Y.nv;omega,trivial⟩,by show m.env (nn+7)=_;omega⟩
 have wlo2:m.env (nn+6)=((y0+x0:Nat):Int):=by omega
 refine ⟨subV r.k.sz (a.eval x) x0 x1,?_,q1,⟨by show nn+6<Y.nv;omega,trivial⟩,whi2.1,⟨by show 0<=m.env (nn+6);omega,by rw [whi2.2];show m.env (nn+6)<=_;omega,by rw [whi2.2,hlv];omega,by rw [whi2.2];omega⟩,?_,sub_one c6⟩
 ·rw [<- hsz]
  simp only [execOp,ho,hv,Instr.sliceAt,Instr.slice,subV]
  simp [run_underlying hu,hsb,run_sizeOf hs]
 ·rw [whi2.2]
  show isView _ _ (m.env (nn+6)).toNat _ _
  rw [wlo2,hsv]
  exact hview
theorem pure_slice {t:TypeId} {x:Operand} {lo hi mx:Option Operand} (h:Rep w0 m Y a w) (ho:o.op=.slice t x lo hi mx) (hp:plan P T Y nn nid o.op=.ok p) (hdf:DefsOk T m.env Y.nv nn p.defs) (hz:∀ x∈p.nz,x.ev m.env≠0):PureOk P m Y a w o p.val:=by
 rw [ho] at hp
 simp only [plan] at hp
 split at hp
 ·cases hp
 ·rename_i hmx
  have hmx':mx=none:=by simpa using hmx
  subst hmx'
  split at hp
  ·rename_i n e id off hu hx
   have h1:=h.cell hx
   split at hp
   ·rename_i l hh s hl hh' hs
    obtain ⟨bl1,bl2⟩:=bounds_opt h hl
    obtain ⟨bh1,bh2⟩:=bounds_opt h hh'
    split at hp
    ·rename_i hb
     cases hp
     simp only [Bool.and_eq_true,decide_eq_true_eq] at hb
     have hsb:=run_sliceBounds (P:=P) (w:=w) (b:=false) (len:=n) (cap:=n) bl1 bl2 bh1 bh2 hb.1 hb.2
     refine ⟨.slice (some (m.at id (if n=l.getD 0 then off else off+l.getD 0*s))) (hh.getD n-l.getD 0) (n-l.getD 0),?_,h1.1,rfl⟩
     simp only [execOp,ho,h1.2,Instr.sliceAt]
     simp [run_underlying hu,Instr.sureAddr,hsb,run_sizeOf hs,at_slice]
    ·cases hp
   ·split at hp
    ·rename_i y s hy hs _
     cases hp
     obtain ⟨bh1,bh2⟩:=bndA_ok h hy
     have d1:m.env nn=b2i (decide ((0:Int)<=y.ev m.env)):=(hdf.2 0 _ _ rfl).1
     have d2:m.env (nn+1)=b2i (decide (y.ev m.env<=(n:Int))):=(hdf.2 1 _ _ rfl).1
     have z1:(0:Int)<=y.ev m.env:=bit_yes (by rw [<- d1];exact hz (.var nn) (by simp))
     have z2:y.ev m.env<=(n:Int):=bit_yes (by rw [<- d2];exact hz (.var (nn+1)) (by simp))
     cases hi with
     | none=>cases bh2 rfl
     | some hx' =>
      obtain ⟨y',k,e1,e2,e3⟩:=bh1 _ rfl
      cases e1
      obtain ⟨x1,hx1⟩:=Int.eq_ofNat_of_zero_le z1
      have hsb:=run_sliceBounds (P:=P) (w:=w) (b:=false) (len:=n) (cap:=n) (lo:=none) (hi:=some (a.eval hx')) (l:=none) (h:=some x1) (fun v hv=>by cases hv) (fun _=>rfl)
       (fun v hv=>by cases hv;exact ⟨x1,k,rfl,by rw [e3,hx1]⟩) (fun e=>by cases e) (by simp;omega) (by simp)
      refine ⟨.slice (some (m.at id off)) x1 n,?_,h1.1,e2,⟨z1,z2⟩,by rw [hx1];rfl⟩
      simp only [execOp,ho,h1.2,Instr.sliceAt]
      simp [run_underlying hu,Instr.sureAddr,hsb,run_sizeOf hs,at_add]
    ·cases hp
  ·rename_i e id off len cap hu hx
   have h1:=h.cell hx
   split at hp
   ·rename_i l hh s hl hh' hs
    obtain ⟨bl1,bl2⟩:=bounds_opt h hl
    obtain ⟨bh1,bh2⟩:=bounds_opt h hh'
    split at hp
    ·rename_i hb
     cases hp
     simp only [Bool.and_eq_true,decide_eq_true_eq] at hb
     have hsb:=run_sliceBounds (P:=P) (w:=w) (b:=true) (len:=len) (cap:=cap) bl1 bl2 bh1 bh2 hb.1 hb.2
     refine ⟨.slice (some (m.at id (if cap=l.getD 0 then off else off+l.getD 0*s))) (hh.getD len-l.getD 0) (cap-l.getD 0),?_,h1.1,rfl⟩
     simp only [execOp,ho,h1.2,Instr.sliceAt,Instr.slice]
     simp [run_underlying hu,hsb,run_sizeOf hs]
     rw [<- at_slice]
     split <;> rfl
    ·cases hp
   ·cases hp
  ·rename_i e id hu hx
   obtain ⟨c1,c2,c3⟩:=h.cell hx
   split at hp
   ·rename_i r l hh s hr hl hh' hs
    split at hp
    ·rename_i hsz
     have hsz:s=r.k.sz:=by simpa using hsz
     obtain ⟨q1,q2,q5,q6,q3⟩:=h.row_ok hr
     obtain ⟨b,cap,hsv⟩:=q3.len
     refine part_pure (d:=.var nn) h ho hu hr hs hsz hl hh' (fun _=>?_) (c2.trans hsv) hsv hp hdf hz
     have e0:p.defs[0]?=some (.int .i64,.llen r.x0):=by unfold partP at hp;cases hp;rfl
     refine ⟨⟨?_,trivial⟩,?_⟩
     ·have:=hdf.1
      have hlp:=(List.getElem?_eq_some_iff.1 e0).1
      show nn<Y.nv
      omega
     ·have:=(hdf.2 0 _ _ e0).1
      rw [Nat.add_zero] at this
      show m.env nn=_
      rw [this];simp only [D.ev,q6]
    ·cases hp
   ·cases hp
  ·rename_i e id lo' hi' k hu hx
   obtain ⟨b1,b2,b3,b4,b5,b6⟩:=h.cell hx
   split at hp
   ·rename_i r l hh s hr hl hh' hs
    split at hp
    ·rename_i hc
     simp only [Bool.and_eq_true,beq_iff_eq] at hc
     obtain ⟨⟨hc1,hc2⟩,hc3⟩:=hc
     have hk:=LKeq_ok hc2
     subst hk
     have hz0:=isZ_ok hc3
     subst hz0
     obtain ⟨q1,q2,q5,q6,q3⟩:=h.row_ok hr
     obtain ⟨b,cap,hsv⟩:=q3.len
     refine part_pure (d:=hi') (n:=(hi'.ev m.env).toNat) h ho hu hr hs hc1 hl hh' (fun _=>⟨b3,?_⟩) (by rw [isView.zero b5,hsv];exact subV_zero ..) hsv hp hdf hz
     have:=b4.2.1
     simp only [A.ev] at this
     omega
    ·split at hp
     ·rename_i hc
      simp only [Bool.and_eq_true,beq_iff_eq] at hc
      obtain ⟨hc1,hc2⟩:=hc
      have hk:=LKeq_ok hc2
      subst hk
      exact view_pure h ho hu hr hs hc1 hl hh' ⟨b1,b2,b3,b4,b5,b6⟩ hp hdf hz
     ·cases hp
   ·cases hp
  ·cases hp
theorem pure_build {t:TypeId} {ps:Array (Nat×Operand)} (h:Rep w0 m Y a w) (ho:o.op=.build t ps) (hp:plan P T Y nn nid o.op=.ok p):PureOk P m Y a w o p.val:=by
 rw [ho] at hp
 simp only [plan] at hp
 have fin:∀ {cs:Array Value},P.built t (ps.map fun (i,x)=>(i,a.eval x)).toList=some cs->(execOp a.eval o).run P w=.ok (.value (.agg cs)) w:=by
  intro cs hc
  simp only [execOp,ho]
  simp [run_build w t _ cs hc]
 split at hp
 ·rename_i i fs l hi hu hl
  split at hp
  ·rename_i z places hz hpl
   split at hp
   ·rename_i zv hzv
    split at hp
    ·rename_i cs hcs
     split at hp
     ·rename_i hsol
      cases hp
      obtain ⟨zs,hz1,hz2,_⟩:=V.rel_cells (m:=m) (nv:=Y.nv) (al:=Y.al) (vOf_rel hzv).1 (vOf_rel (m:=m) (nv:=Y.nv) (al:=Y.al) hzv).2
      obtain ⟨vs,hv1,hv2⟩:=fill_ok (m:=m) _ l hsol (parts_ok h _ _ hl hsol) _ _ _ hz2 hcs
      refine ⟨.agg vs.toArray,fin ?_,vs,rfl,hv2⟩
      have e:(fun j:Nat=>places[j]?)=fun j:Nat=>places.toArray[j]?:=by funext j;simp
      rw [e] at hv1
      simp only [Program.built,hi,hu,hz,hpl,hz1]
      simpa using hv1
     ·cases hp
    ·cases hp
   ·cases hp
  ·cases hp
 ·rename_i i n e l hi hu hl
  split at hp
  ·rename_i z s hz hs
   split at hp
   ·rename_i zv hzv
    split at hp
    ·rename_i cs hcs
     split at hp
     ·rename_i hsol
      cases hp
      obtain ⟨zs,hz1,hz2,_⟩:=V.rel_cells (m:=m) (nv:=Y.nv) (al:=Y.al) (vOf_rel hzv).1 (vOf_rel (m:=m) (nv:=Y.nv) (al:=Y.al) hzv).2
      obtain ⟨vs,hv1,hv2⟩:=fill_ok (m:=m) _ l hsol (parts_ok h _ _ hl hsol) _ _ _ hz2 hcs
      refine ⟨.agg vs.toArray,fin ?_,vs,rfl,hv2⟩
      unfold szOf at hs
      cases he:P.info? e with
      | none=>simp [he] at hs
      | some ie =>
       simp [he] at hs
       subst hs
       simp only [Program.built,hi,hu,hz,he,hz1]
       simpa using hv1
     ·cases hp
    ·cases hp
   ·cases hp
  ·cases hp
 ·cases hp
theorem args_ok (h:Rep w0 m Y a w):∀ (xs:List Operand) (l:List V),mapO Y.v xs=some l->VRels m Y.nv Y.al l (xs.map a.eval):=by
 intro xs
 induction xs with
 | nil=>intro l hl;simp [mapO] at hl;subst hl;trivial
 | cons x xs ih =>
  intro l hl
  unfold mapO at hl
  split at hl
  ·cases hl
  ·rename_i y hy
   split at hl
   ·cases hl
   ·rename_i ys hys
    cases hl
    exact ⟨h.v_ hy,ih ys hys⟩
def NewOk (P:Program) (m:M) (Y:St) (a:Act) (w:World) (o:Oper) (e:TypeId) (cs:List C) (f:Addr->Value):Prop :=
 ∃ vs:List Value,(execOp a.eval o).run P w=.ok (.value (f ⟨w.heap.size,0,none⟩)) (w.alloc (.cells vs.toArray e))/\Rels m Y.nv Y.al cs vs
theorem new_alloc {e:TypeId} (ho:o.op=.alloc e) (hp:plan P T Y nn nid o.op=.ok p) :
  ∃ cs,p={val:=.vl (.one (.ptr nid 0)),eff:=.new {cells:=cs,elem:=e,own:=true } }/\NewOk P m Y a w o e cs (fun ad=>.pointer (some ad)):=by
 rw [ho] at hp
 simp only [plan] at hp
 split at hp
 ·rename_i i hi
  split at hp
  ·rename_i z hz
   split at hp
   ·rename_i v hv
    cases hp
    obtain ⟨vs,h1,h2,_⟩:=V.rel_cells (m:=m) (nv:=Y.nv) (al:=Y.al) (vOf_rel hv).1 (vOf_rel (m:=m) (nv:=Y.nv) (al:=Y.al) hv).2
    refine ⟨_,rfl,vs,?_,h2⟩
    simp only [execOp,ho,Instr.alloc]
    simp [run_zeroValue hi hz,newVar,newRow,h1]
   ·cases hp
  ·cases hp
 ·cases hp
theorem new_box {e:TypeId} {x:Operand} (h:Rep w0 m Y a w) (ho:o.op=.box e x) (hp:plan P T Y nn nid o.op=.ok p) :
  ∃ cs,p={val:=.vl (.one (.ptr nid 0)),eff:=.new {cells:=cs,elem:=e,own:=true } }/\NewOk P m Y a w o e cs (fun ad=>.pointer (some ad)):=by
 rw [ho] at hp
 simp only [plan] at hp
 split at hp
 ·rename_i v hv
  split at hp
  ·rename_i hs
   cases hp
   obtain ⟨vs,h1,h2,_⟩:=V.rel_cells (h.v_ hv) hs
   refine ⟨_,rfl,vs,?_,h2⟩
   simp only [execOp,ho,Instr.box]
   simp [newVar,newRow,h1]
  ·cases hp
 ·cases hp
theorem range_mod (zs:List Value):∀ n:Nat,(List.range (n*zs.length)).map (fun i=>zs.getD (i%zs.length) default)=(List.replicate n zs).flatten:=by
 intro n
 induction n with
 | zero=>simp
 | succ n ih =>
  rw [Nat.add_mul,Nat.one_mul,List.range_add,List.map_append,ih,List.replicate_succ',List.flatten_append]
  congr 1
  simp only [List.flatten_cons,List.flatten_nil,List.append_nil,List.map_map]
  apply List.ext_getElem?
  intro j
  simp only [List.getElem?_map]
  by_cases hj:j<zs.length
  ·simp [hj,Nat.mod_eq_of_lt hj]
  ·simp [hj]
theorem rels_flatten {nv:Nat} {al:Nat->Bool} {cs:List C} {vs:List Value} (h:Rels m nv al cs vs):∀ n,Rels m nv al (List.replicate n cs).flatten (List.replicate n vs).flatten:=by
 intro n
 induction n with
 | zero=>simp [Rels]
 | succ n ih=>rw [List.replicate_succ,List.replicate_succ,List.flatten_cons,List.flatten_cons];exact h.append ih
theorem new_buildSlice {t:TypeId} {len:Nat} {ps:Array (Nat×Operand)} (h:Rep w0 m Y a w) (ho:o.op=.buildSlice t len ps) (he:emptyP P nid t len ps=none) (hp:plan P T Y nn nid o.op=.ok p) :
  ∃ cs e,p={val:=.vl (.one (.slice nid 0 len len)),eff:=.new {cells:=cs,elem:=e,own:=true } }/\NewOk P m Y a w o e cs (fun ad=>.slice (some ad) len len):=by
 rw [ho] at hp
 simp only [plan,he] at hp
 split at hp
 ·rename_i e l hu hl
  split at hp
  ·rename_i i hi
   split at hp
   ·rename_i z hz
    split at hp
    ·rename_i zv hzv
     split at hp
     ·rename_i hc
      simp only [Bool.and_eq_true,decide_eq_true_eq,beq_iff_eq] at hc
      obtain ⟨⟨hc1,hc2⟩,hc3⟩:=hc
      split at hp
      ·rename_i cs hcs
       split at hp
       ·rename_i hsol
        cases hp
        obtain ⟨zs,hz1,hz2,_⟩:=V.rel_cells (m:=m) (nv:=Y.nv) (al:=Y.al) (vOf_rel hzv).1 (vOf_rel (m:=m) (nv:=Y.nv) (al:=Y.al) hzv).2
        have hzl:zs.length=i.size:=by rw [<- Rels.length hz2];exact hc1
        obtain ⟨vs,hv1,hv2⟩:=fill_ok (m:=m) _ l hsol (parts_ok h _ _ hl hsol) _ _ _ (rels_flatten hz2 len) hcs
        refine ⟨_,_,rfl,vs,?_,hv2⟩
        have hsz:szOf P e=some i.size:=by simp [szOf,hi]
        have hrow:(Array.map (fun x=>zs[x%zs.length]?.getD default) (Array.range (len*i.size)))=((List.replicate len zs).flatten).toArray:=by
         apply Array.ext'
         rw [<- hzl,<- range_mod zs len]
         simp
        have hv1':Instr.fill (fun j=>some (j*i.size,i.size)) ((List.replicate len zs).flatten).toArray (List.map (fun x=>(x.fst,a.eval x.snd)) ps.toList)=some vs.toArray:=hv1
        simp only [execOp,ho,Instr.buildSlice]
        have hne:len*i.size=0∨¬ len*i.size=0:=Decidable.em _
        simp only [Sem.run_bind,run_underlying hu,Result.andThen_ok,run_sizeOf hsz]
        rw [if_neg (by omega)]
        rcases hne with h0 | h0
        ·have:len=0:=by rcases Nat.mul_eq_zero.1 h0 with h | h <;> omega
         subst this
         have he:Array.map (fun (_:Nat)=>(default:Value)) (Array.range 0)=#[]:=Array.ext' (by simp)
         simp at hv1'
         simp [he,hv1',newRow]
        ·simp [h0,run_zeroValue hi hz,hz1]
         rw [hrow]
         simp [hv1',newRow]
       ·cases hp
      ·cases hp
     ·cases hp
    ·cases hp
   ·cases hp
  ·cases hp
 ·cases hp
theorem putDs_get (k:IntKind) (i x:A):∀ (as:List A) (j0 j:Nat),(putDs k i x as j0)[j]?=as[j]?.map fun y=>(.int k,.put i (j0+j) x y)
 | [],j0,j=>by simp [putDs]
 | y::as,j0,j=>by
  cases j with
  | zero=>simp [putDs]
  | succ j=>simp only [putDs,List.getElem?_cons_succ,putDs_get k i x as (j0+1) j];congr 1;funext z;rw [show j0+1+j=j0+(j+1) by omega]
theorem putDs_len (k:IntKind) (i x:A):∀ (as:List A) (j0:Nat),(putDs k i x as j0).length=as.length
 | [],_=>rfl
 | _::as,j0=>by simp [putDs,putDs_len k i x as (j0+1)]
theorem putCs_get (k:IntKind):∀ (n nn j:Nat) (c:C),(putCs k nn n)[j]?=some c->j<n/\c=.int k (.var (nn+j))
 | 0,nn,j,c,h=>by simp [putCs] at h
 | n+1,nn,j,c,h=>by
  cases j with
  | zero=>simp [putCs] at h;exact ⟨by omega,by rw [<- h];rfl⟩
  | succ j =>
   obtain ⟨h1,h2⟩:=putCs_get k n (nn+1) j c (by simpa [putCs] using h)
   exact ⟨by omega,by rw [h2,show nn+1+j=nn+(j+1) by omega]⟩
theorem putCs_len (k:IntKind):∀ (n nn:Nat),(putCs k nn n).length=n
 | 0,_=>rfl
 | n+1,nn=>by simp [putCs,putCs_len k n (nn+1)]
theorem set_row {us:List Value} {off n i:Nat} {v:Value} (hi:i<n) (hl:off+n<=us.length) :
  us.take (off+i)++[v]++us.drop (off+i+1)=us.take off++((us.drop off).take n).set i v++us.drop (off+(((us.drop off).take n).set i v).length):=by
 have hn:(((us.drop off).take n).set i v).length=n:=by simp;omega
 rw [hn]
 apply List.ext_getElem?
 intro j
 simp only [List.append_assoc,List.getElem?_append,List.length_take,List.getElem?_take,List.getElem?_drop,List.length_set,List.getElem?_set,List.length_drop,List.length_singleton]
 have e1:min (off+i) us.length=off+i:=by omega
 have e2:min off us.length=off:=by omega
 have e3:min n (us.length-off)=n:=by omega
 rw [e1,e2,e3]
 by_cases h1:j<off
 ·simp [h1,show j<off+i by omega]
 ·by_cases h2:j<off+i
  ·simp only [h1,h2,if_true,if_false,show j-off<n by omega,show ¬ i=j-off by omega]
   congr 1;omega
  ·by_cases h3:j=off+i
   ·subst h3
    simp [show i<n by omega,show ¬ off+i<off by omega]
   ·have h4:¬ j-(off+i)<1:=by omega
    simp only [h1,h2,h4,if_false]
    by_cases h5:j-off<n
    ·simp only [h5,if_true,show ¬ i=j-off by omega,if_false];congr 1;omega
    ·simp only [h5,if_false];congr 1;omega
end
def D.ok (n:Nat):D->Prop
 | .bin _ _ a b=>a.ok n/\b.ok n
 | .cmp _ a b=>a.ok n/\b.ok n
 | .conv _ a=>a.ok n
 | .not a=>a.ok n
 | .app _ _ as=>∀ a∈as,a.ok n
 | .join as=>∀ a∈as,a.ok n
 | .eqs l=>∀ p∈l,p.1.ok n/\p.2.ok n
 | .sel i as=>i.ok n/\∀ a∈as,a.ok n
 | .put i _ x y=>i.ok n/\x.ok n/\y.ok n
 | .llen x=>x.ok n
 | .lget x i=>x.ok n/\i.ok n
 | .lapp x as=>x.ok n/\∀ a∈as,a.ok n
 | .lsub x lo hi=>x.ok n/\lo.ok n/\hi.ok n
 | .lput x i y=>x.ok n/\i.ok n/\y.ok n
 | .lrep c y=>c.ok n/\y.ok n
 | .lcpy x y=>x.ok n/\y.ok n
 | .lcat x y=>x.ok n/\y.ok n
 | .lsame x y=>x.ok n/\y.ok n
theorem map_ev_congr {as:List A} {n:Nat} {e e':Nat->Int} (h:∀ a∈as,a.ok n) (he:∀ i,i<n->e' i=e i):as.map (·.ev e')=as.map (·.ev e) :=
 List.map_congr_left fun a ha=>A.ev_congr (h a ha) he
theorem D.ev_congr {T:List K} {d:D} {n:Nat} {e e':Nat->Int} (h:d.ok n) (he:∀ i,i<n->e' i=e i):d.ev T e'=d.ev T e:=by
 cases d with
 | bin op k a b=>simp only [D.ev,A.ev_congr h.1 he,A.ev_congr h.2 he]
 | cmp op a b=>simp only [D.ev,A.ev_congr h.1 he,A.ev_congr h.2 he]
 | conv k a=>simp only [D.ev,A.ev_congr h he]
 | not a=>simp only [D.ev,A.ev_congr h he]
 | app g j as=>simp only [D.ev,map_ev_congr h he]
 | join as=>simp only [D.ev,map_ev_congr h he]
 | sel i as=>simp only [D.ev,A.ev_congr h.1 he,map_ev_congr h.2 he]
 | put i j x y=>simp only [D.ev,A.ev_congr h.1 he,A.ev_congr h.2.1 he,A.ev_congr h.2.2 he]
 | llen x=>simp only [D.ev,A.ev_congr h he]
 | lget x i=>simp only [D.ev,A.ev_congr h.1 he,A.ev_congr h.2 he]
 | lapp x as=>simp only [D.ev,A.ev_congr h.1 he,map_ev_congr h.2 he]
 | lsub x lo hi=>simp only [D.ev,A.ev_congr h.1 he,A.ev_congr h.2.1 he,A.ev_congr h.2.2 he]
 | lput x i y=>simp only [D.ev,A.ev_congr h.1 he,A.ev_congr h.2.1 he,A.ev_congr h.2.2 he]
 | lrep c y=>simp only [D.ev,A.ev_congr h.1 he,A.ev_congr h.2 he]
 | lcpy x y=>simp only [D.ev,A.ev_congr h.1 he,A.ev_congr h.2 he]
 | lcat x y=>simp only [D.ev,A.ev_congr h.1 he,A.ev_congr h.2 he]
 | lsame x y=>simp only [D.ev,A.ev_congr h.1 he,A.ev_congr h.2 he]
 | eqs l =>
  simp only [D.ev]
  congr 1
  induction l with
  | nil=>rfl
  | cons p l ih =>
   have hp:=h p (List.mem_cons_self ..)
   simp only [List.all_cons,A.ev_congr hp.1 he,A.ev_congr hp.2 he]
   rw [ih fun q hq=>h q (List.mem_cons_of_mem _ hq)]
def GenOk (T:List K):(Nat->Int)->Nat->Defs->Prop
 | _,_,[]=>True
 | e,nn,(kk,d)::ds=>d.ok nn/\kk.has (d.ev T e)/\GenOk T (upd e nn (d.ev T e)) (nn+1) ds
def Told (T:List K) (e':Nat->Int) (nn:Nat) (ds:Defs):Prop :=
 ∀ (i:Nat) kk d,ds[i]?=some (kk,d)->e' (nn+i)=d.ev T e'/\kk.has (e' (nn+i))
section
variable {T:List K}
theorem letts_holds {goal:Gl} {t:Tree}:∀ (ds:Defs) (e:Nat->Int) (nn:Nat),(letts nn ds t).holds T goal e->GenOk T e nn ds ->
  ∃ e',(∀ i,i<nn->e' i=e i)/\(∀ i,nn+ds.length<=i->e' i=e i)/\Told T e' nn ds/\t.holds T goal e':=by
 intro ds
 induction ds with
 | nil=>intro e nn h _;exact ⟨e,fun _ _=>rfl,fun _ _=>rfl,fun i kk d h=>by simp at h,h⟩
 | cons x ds ih =>
  intro e nn h hg
  obtain ⟨kk,d⟩:=x
  obtain ⟨h1,h2,h3⟩:=hg
  have h4:=h _ rfl h2
  obtain ⟨e',g1,g2,g3,g4⟩:=ih _ _ h4 h3
  have hlow:∀ i,i<nn->e' i=e i:=fun i hi=>by rw [g1 i (by omega)];simp [upd];omega
  have hev:d.ev T e'=d.ev T e:=D.ev_congr h1 hlow
  have hnn:e' nn=d.ev T e:=by rw [g1 nn (by omega)];simp [upd]
  refine ⟨e',hlow,fun i hi=>?_,fun i kk' d' hi=>?_,g4⟩
  ·simp only [List.length_cons] at hi
   rw [g2 i (by omega)];simp [upd];omega
  ·cases i with
   | zero=>simp at hi;obtain ⟨rfl,rfl⟩:=hi;simp only [Nat.add_zero];rw [hnn,hev];exact ⟨rfl,h2⟩
   | succ i=>have:=g3 i kk' d' (by simpa using hi);rwa [show nn+1+i=nn+(i+1) by omega] at this
theorem Told.append {e':Nat->Int} {nn:Nat} {ds ds':Defs}:Told T e' nn (ds++ds')↔Told T e' nn ds/\Told T e' (nn+ds.length) ds':=by
 constructor
 ·intro h
  refine ⟨fun i kk d hi=>h i kk d ?_,fun i kk d hi=>?_⟩
  ·have hl:=(List.getElem?_eq_some_iff.1 hi).1
   rw [List.getElem?_append_left hl];exact hi
  ·have:=h (ds.length+i) kk d (by rw [List.getElem?_append_right (by omega)];simpa using hi)
   rwa [<- Nat.add_assoc] at this
 ·rintro ⟨h1,h2⟩ i kk d hi
  by_cases hl:i<ds.length
  ·rw [List.getElem?_append_left hl] at hi;exact h1 i kk d hi
  ·rw [List.getElem?_append_right (by omega)] at hi
   have:=h2 _ kk d hi
   rwa [show nn+ds.length+(i-ds.length)=nn+i by omega] at this
theorem gen_append:∀ (ds:Defs) (e:Nat->Int) (nn:Nat) (ds':Defs),GenOk T e nn ds->(∀ e',(∀ i,i<nn->e' i=e i)->Told T e' nn ds->GenOk T e' (nn+ds.length) ds')->GenOk T e nn (ds++ds'):=by
 intro ds
 induction ds with
 | nil=>intro e nn ds' _ h;exact h e (fun _ _=>rfl) (fun i kk d h=>by simp at h)
 | cons x ds ih =>
  intro e nn ds' hg h
  obtain ⟨kk,d⟩:=x
  obtain ⟨h1,h2,h3⟩:=hg
  refine ⟨h1,h2,ih _ _ _ h3 fun e' he ht=>?_⟩
  have hlow:∀ i,i<nn->e' i=e i:=fun i hi=>by rw [he i (by omega)];simp [upd];omega
  have hev:d.ev T e'=d.ev T e:=D.ev_congr h1 hlow
  have hnn:e' nn=d.ev T e:=by rw [he nn (by omega)];simp [upd]
  have:=h e' hlow fun i kk' d' hi=>by
   cases i with
   | zero=>simp at hi;obtain ⟨rfl,rfl⟩:=hi;simp only [Nat.add_zero];rw [hnn,hev];exact ⟨rfl,h2⟩
   | succ i=>have:=ht i kk' d' (by simpa using hi);rwa [show nn+1+i=nn+(i+1) by omega] at this
  simpa [Nat.add_assoc,Nat.add_comm 1] using this
theorem mk_gen {e:Nat->Int} {nn:Nat} {kk:KK} {d:D} (h1:d.ok nn) (h2:kk.has (d.ev T e)):GenOk T e nn (mk nn kk d).1:=by
 unfold mk
 split
 ·trivial
 ·exact ⟨h1,h2,trivial⟩
end
theorem limb_step (x r:Int) (h0:0<=x) (h1:x<18446744073709551616) (j:Nat) :
  (x+18446744073709551616*r)/p64 (j+1)=r/p64 j:=by
 have e:p64 (j+1)=18446744073709551616*p64 j:=by
  unfold p64;rw [Nat.mul_add,Nat.pow_add,Nat.mul_comm];simp
 rw [e,<- Int.ediv_ediv_of_nonneg (by omega)]
 congr 1
 omega
theorem limb_zero (x r:Int) (h0:0<=x) (h1:x<18446744073709551616):(x+18446744073709551616*r)/p64 0%18446744073709551616=x:=by
 have e:p64 0=1:=rfl
 rw [e,Int.ediv_one]
 omega
theorem limbs_join {a b c d e f:Int} (ha:0<=a/\a<18446744073709551616) (hb:0<=b/\b<18446744073709551616) (hc:0<=c/\c<18446744073709551616)
  (hd:0<=d/\d<18446744073709551616) (he:0<=e/\e<18446744073709551616) (hf:0<=f/\f<18446744073709551616) :
  limbs (joinE [a,b,c,d,e,f])=[.int .u64 a,.int .u64 b,.int .u64 c,.int .u64 d,.int .u64 e,.int .u64 f]/\0<=joinE [a,b,c,d,e,f]/\joinE [a,b,c,d,e,f]<N384:=by
 refine ⟨?_,?_⟩
 ·have hr:List.range 6=[0,1,2,3,4,5]:=rfl
  simp only [limbs,hr,List.map_cons,List.map_nil,joinE]
  rw [limb_zero a _ ha.1 ha.2,limb_step a _ ha.1 ha.2 0,limb_zero b _ hb.1 hb.2,limb_step a _ ha.1 ha.2 1,limb_step b _ hb.1 hb.2 0,limb_zero c _ hc.1 hc.2,
   limb_step a _ ha.1 ha.2 2,limb_step b _ hb.1 hb.2 1,limb_step c _ hc.1 hc.2 0,limb_zero d _ hd.1 hd.2,
   limb_step a _ ha.1 ha.2 3,limb_step b _ hb.1 hb.2 2,limb_step c _ hc.1 hc.2 1,limb_step d _ hd.1 hd.2 0,limb_zero e _ he.1 he.2,
   limb_step a _ ha.1 ha.2 4,limb_step b _ hb.1 hb.2 3,limb_step c _ hc.1 hc.2 2,limb_step d _ hd.1 hd.2 1,limb_step e _ he.1 he.2 0,limb_zero f _ hf.1 hf.2]
 ·simp only [joinE,N384]
  omega
theorem LK.hasL.sub {k:LK} {l:List Int} (h:k.hasL l) (hi lo:Nat):k.hasL ((l.take hi).drop lo) :=
 ⟨by have:=h.1;simp only [List.length_drop,List.length_take];omega,fun z hz=>h.2 z (List.mem_of_mem_take (List.mem_of_mem_drop hz))⟩
theorem has_u64 {x:Int} (h:has .u64 x):0<=x/\x<18446744073709551616:=by simp only [has,lo,hi] at h;omega
section
variable {T:List K} {m:M} {nv:Nat} {al:Nat->Bool}
theorem cEq_ok {c c':C} {v:Value} (h:cEq c c'=true) (hv:c'.rel m nv al v):v=cstV c:=by
 unfold cEq at h
 split at h <;> simp only [C.rel] at hv
 ·simp at h;obtain ⟨rfl,rfl⟩:=h;exact hv.2.2
 ·simp at h;subst h;exact hv.2.2
 ·simp at h;subst h;rw [hv.2];rfl
 ·have h:=of_decide_eq_true h;subst h;exact hv
 all_goals (first | exact hv | cases h)
theorem uni_ok {as:List A} {n:Nat} (h:uni as=some n):as=[.limb n 0,.limb n 1,.limb n 2,.limb n 3,.limb n 4,.limb n 5]:=by
 unfold uni at h
 split at h
 ·split at h
  ·rename_i hh;simp at hh h;obtain ⟨⟨⟨⟨rfl,rfl⟩,rfl⟩,rfl⟩,rfl⟩:=hh;rw [h]
  ·cases h
 ·cases h
theorem lits_ok (e:Nat->Int):∀ (as:List A) (l:List Int),mapO A.lit? as=some l->as.map (·.ev e)=l:=by
 intro as
 induction as with
 | nil=>intro l hm;simp [mapO] at hm;subst hm;rfl
 | cons a as ih =>
  intro l hm
  unfold mapO at hm
  split at hm
  ·cases hm
  ·rename_i y hy
   split at hm
   ·cases hm
   ·rename_i ys hys
    cases hm
    simp only [List.map_cons,ih _ hys]
    congr 1
    cases a <;> simp [A.lit?] at hy
    subst hy;rfl
theorem litsJ_ok {as:List A} {n:Int} (h:litsJ as=some n) (e:Nat->Int):joinE (as.map (·.ev e))=n:=by
 unfold litsJ at h
 cases hm:mapO A.lit? as with
 | none=>simp [hm] at h
 | some l=>simp [hm] at h;rw [lits_ok e as l hm,h]
theorem numA_ok {nn:Nat} {a b c d e f:A} {v0 v1 v2 v3 v4 v5:Value}
  (h0:C.rel m nv al (.int .u64 a) v0) (h1:C.rel m nv al (.int .u64 b) v1) (h2:C.rel m nv al (.int .u64 c) v2) (h3:C.rel m nv al (.int .u64 d) v3) (h4:C.rel m nv al (.int .u64 e) v4) (h5:C.rel m nv al (.int .u64 f) v5) :
  (nv<=nn->GenOk T m.env nn (numA nn [a,b,c,d,e,f]).1/\(numA nn [a,b,c,d,e,f]).2.ok (nn+(numA nn [a,b,c,d,e,f]).1.length)) /\
  ∀ e',(∀ i,i<nv->e' i=m.env i)->Told T e' nn (numA nn [a,b,c,d,e,f]).1 ->
   limbs ((numA nn [a,b,c,d,e,f]).2.ev e')=[v0,v1,v2,v3,v4,v5]/\0<=(numA nn [a,b,c,d,e,f]).2.ev e'/\(numA nn [a,b,c,d,e,f]).2.ev e'<N384:=by
 have hj:=limbs_join (has_u64 h0.2.1) (has_u64 h1.2.1) (has_u64 h2.2.1) (has_u64 h3.2.1) (has_u64 h4.2.1) (has_u64 h5.2.1)
 rw [<- h0.2.2,<- h1.2.2,<- h2.2.2,<- h3.2.2,<- h4.2.2,<- h5.2.2] at hj
 unfold numA
 cases hu:uni [a,b,c,d,e,f] with
 | some n =>
  have hu':=uni_ok hu
  simp only [List.cons.injEq,and_true] at hu'
  obtain ⟨rfl,rfl,rfl,rfl,rfl,rfl⟩:=hu'
  have hlt:n<nv:=h0.1.1
  refine ⟨fun hn=>⟨trivial,by simp only [A.ok];omega⟩,fun e' he _=>?_⟩
  have hen:e' n=m.env n:=he n hlt
  refine ⟨?_,?_⟩
  ·rw [h0.2.2,h1.2.2,h2.2.2,h3.2.2,h4.2.2,h5.2.2]
   have hv:(A.var n).ev e'=m.env n:=hen
   rw [hv]
   rfl
  ·simp only [A.ev,hen];exact h0.1.2
 | none =>
  simp only
  cases hl:litsJ [a,b,c,d,e,f] with
  | some n =>
   have:=litsJ_ok hl m.env
   simp only [List.map_cons,List.map_nil] at this
   rw [this] at hj
   exact ⟨fun _=>⟨trivial,trivial⟩,fun e' _ _=>hj⟩
  | none =>
   simp only
   have hok:∀ x∈[a,b,c,d,e,f],x.ok nv:=by
    intro x hx
    simp only [List.mem_cons,List.not_mem_nil,or_false] at hx
    rcases hx with rfl | rfl | rfl | rfl | rfl | rfl
    ·exact h0.1.1
    ·exact h1.1.1
    ·exact h2.1.1
    ·exact h3.1.1
    ·exact h4.1.1
    ·exact h5.1.1
   refine ⟨fun hn=>⟨⟨fun x hx=>A.ok_mono (hok x hx) hn,hj.2,trivial⟩,by simp [A.ok]⟩,fun e' he ht=>?_⟩
   have h6:=(ht 0 _ _ rfl).1
   simp only [Nat.add_zero] at h6
   simp only [A.ev]
   rw [h6,D.ev_congr (d:=.join [a,b,c,d,e,f]) hok he]
   exact hj
theorem intA_map {k:IntKind} {cs:List C} {as:List A} (h:mapO (intA k) cs=some as):cs=as.map (.int k):=by
 induction cs generalizing as with
 | nil=>simp [mapO] at h;subst h;rfl
 | cons c cs ih =>
  unfold mapO at h
  split at h
  ·cases h
  ·rename_i y hy
   split at h
   ·cases h
   ·rename_i ys hys
    cases h
    unfold intA at hy
    split at hy
    ·split at hy
     ·rename_i hk
      cases hy
      simp at hk
      subst hk
      rw [List.map_cons,<- ih hys]
     ·cases hy
    ·cases hy
theorem ints_all:∀ {as:List A} {k:IntKind} {vs:List Value},Rels m nv al (as.map (.int k)) vs->vs=(as.map (·.ev m.env)).map (.int k)/\∀ x∈as,x.wf nv m.env/\has k (x.ev m.env)
 | [],k,[],_=>⟨rfl,by simp⟩
 | a::as,k,v::vs,h=>by
  obtain ⟨h1,h2⟩:=ints_all (as:=as) h.2
  refine ⟨by simp only [List.map_cons];rw [<- h1,h.1.2.2],fun x hx=>?_⟩
  rcases List.mem_cons.1 hx with rfl | hx
  ·exact ⟨h.1.1,h.1.2.1⟩
  ·exact h2 x hx
theorem arrA_ok {nn:Nat} {k:IntKind} {as:List A} {vs:List Value} (hr:Rels m nv al (as.map (.int k)) vs) (hl:as.length<=1024) :
  (nv<=nn->GenOk T m.env nn (arrA nn k as).1/\(arrA nn k as).2.ok (nn+(arrA nn k as).1.length))/\(arrA nn k as).1.length=1 /\
  ∀ e',(∀ i,i<nv->e' i=m.env i)->Told T e' nn (arrA nn k as).1->dec ((arrA nn k as).2.ev e')=as.map (·.ev m.env):=by
 obtain ⟨h1,h2⟩:=ints_all hr
 have hL:(LK.int k).hasL (as.map (·.ev m.env)):=⟨by rw [List.length_map];omega,fun z hz=>by obtain ⟨x,hx,rfl⟩:=List.mem_map.1 hz;exact (h2 x hx).2⟩
 unfold arrA
 cases hu:eltU k as with
 | none =>
  refine ⟨fun hn=>⟨⟨⟨trivial,fun x hx=>A.ok_mono (h2 x hx).1.1 hn⟩,?_,trivial⟩,by show nn<nn+1;omega⟩,rfl,fun e' he ht=>?_⟩
  ·simp only [KK.has,D.ev,A.ev,dec_zero,dec_enc,List.nil_append]
   exact ⟨hL,by rw [List.length_map]⟩
  ·have h0:=(ht 0 _ _ rfl).1
   simp only [Nat.add_zero,D.ev,A.ev,dec_zero,List.nil_append] at h0
   show dec (e' nn)=_
   rw [h0,dec_enc]
   exact List.map_congr_left fun x hx=>A.ev_congr (h2 x hx).1.1 he
 | some n =>
  obtain ⟨h3,h4⟩:=eltU_ok hu
  obtain ⟨h5,h6,h7⟩:=elt_len hu hr
  have key:(dec (m.env n)).take as.length=as.map (·.ev m.env):=by
   refine List.ext_getElem? fun i=>?_
   rw [List.getElem?_take,List.getElem?_map]
   split
   ·rename_i hi
    rw [List.getElem?_eq_getElem hi,Option.map_some,h4 i _ (List.getElem?_eq_getElem hi)]
    simp only [A.ev]
    rw [List.getD_eq_getElem?_getD,List.getElem?_eq_getElem (by omega)];rfl
   ·rename_i hi
    rw [List.getElem?_eq_none (by omega)];rfl
  refine ⟨fun hn=>⟨⟨⟨by show n<nn;omega,trivial,trivial⟩,?_,trivial⟩,by show nn<nn+1;omega⟩,rfl,fun e' he ht=>?_⟩
  ·simp only [KK.has,D.ev,A.ev,dec_enc,Int.toNat_natCast,Int.toNat_zero,List.drop_zero,key]
   exact ⟨hL,by rw [List.length_map]⟩
  ·have h0:=(ht 0 _ _ rfl).1
   simp only [Nat.add_zero,D.ev,A.ev,Int.toNat_natCast,Int.toNat_zero,List.drop_zero] at h0
   show dec (e' nn)=_
   rw [h0,dec_enc,he n h7,key]
theorem takeLs_ok:∀ (ls:List L) (cs:List C) (nn:Nat) (ds:Defs) (as:List A),takeLs nn ls cs=some (ds,as)->∀ (m:M) (nv:Nat) (vs:List Value),Rels m nv al cs vs ->
  (nv<=nn->GenOk T m.env nn ds/\(∀ a∈as,a.ok (nn+ds.length)))/\as.length=lcount ls /\
  ∀ e',(∀ i,i<nv->e' i=m.env i)->Told T e' nn ds->lvals ls (as.map (·.ev e'))=vs/\lhas ls (as.map (·.ev e')):=by
 intro ls
 induction ls with
 | nil =>
  intro cs nn ds as h m nv vs hr
  unfold takeLs at h
  split at h
  ·cases h
   match vs,hr with
   | [],_=>exact ⟨fun _=>⟨trivial,by simp⟩,rfl,fun e' _ _=>⟨rfl,trivial⟩⟩
  all_goals (rename_i hh;first | (exact absurd rfl hh) | (simp_all;done) | cases h)
 | cons l ls ih =>
  intro cs nn ds as h m nv vs hr
  unfold takeLs at h
  split at h
  ·rename_i hc;cases hc
  ·rename_i c ls' c' cs' hcl
   simp only [List.cons.injEq] at hcl
   obtain ⟨rfl,rfl⟩:=hcl
   split at h
   ·rename_i hce
    match vs,hr with
    | v::vs,hr =>
     obtain ⟨g1,g3,g4⟩:=ih _ _ _ _ h m nv vs hr.2
     refine ⟨g1,by simp [lcount,L.n,g3],fun e' he ht=>?_⟩
     obtain ⟨g5,g6⟩:=g4 e' he ht
     exact ⟨by simp only [lvals];rw [g5,<- cEq_ok hce hr.1],g6⟩
   ·cases h
  ·rename_i k ls' k' a cs' hcl
   simp only [List.cons.injEq] at hcl
   obtain ⟨rfl,rfl⟩:=hcl
   split at h
   ·rename_i hk
    simp at hk
    subst hk
    cases hq:takeLs nn ls cs' with
    | none=>simp [hq] at h
    | some q =>
     obtain ⟨q1,q2⟩:=q
     simp [hq] at h
     obtain ⟨rfl,rfl⟩:=h
     match vs,hr with
     | v::vs,hr =>
      obtain ⟨g1,g3,g4⟩:=ih _ _ _ _ hq m nv vs hr.2
      refine ⟨fun hn=>⟨(g1 hn).1,?_⟩,by simp [lcount,L.n,g3,Nat.add_comm],fun e' he ht=>?_⟩
      ·intro x hx
       rcases List.mem_cons.1 hx with rfl | hx
       ·exact A.ok_mono hr.1.1.1 (by omega)
       ·exact (g1 hn).2 x hx
      ·obtain ⟨g5,g6⟩:=g4 e' he ht
       have hev:a.ev e'=a.ev m.env:=A.ev_congr hr.1.1.1 he
       simp only [List.map_cons,hev]
       exact ⟨by simp only [lvals];rw [g5,hr.1.2.2],hr.1.2.1,g6⟩
   ·cases h
  ·rename_i ls' a cs' hcl
   simp only [List.cons.injEq] at hcl
   obtain ⟨rfl,rfl⟩:=hcl
   have h':(takeLs nn ls cs').map (fun r=>(r.1,a::r.2))=some (ds,as):=by
    split at h
    ·split at h
     ·exact h
     ·cases h
    ·exact h
   clear h
   cases hq:takeLs nn ls cs' with
   | none=>simp [hq] at h'
   | some q =>
    obtain ⟨q1,q2⟩:=q
    simp [hq] at h'
    obtain ⟨rfl,rfl⟩:=h'
    match vs,hr with
    | v::vs,hr =>
     obtain ⟨g1,g3,g4⟩:=ih _ _ _ _ hq m nv vs hr.2
     refine ⟨fun hn=>⟨(g1 hn).1,?_⟩,by simp [lcount,L.n,g3,Nat.add_comm],fun e' he ht=>?_⟩
     ·intro x hx
      rcases List.mem_cons.1 hx with rfl | hx
      ·exact A.ok_mono hr.1.1.1 (by omega)
      ·exact (g1 hn).2 x hx
     ·obtain ⟨g5,g6⟩:=g4 e' he ht
      have hev:a.ev e'=a.ev m.env:=A.ev_congr hr.1.1.1 he
      simp only [List.map_cons,hev]
      exact ⟨by simp only [lvals];rw [g5,hr.1.2.2],hr.1.2.1,g6⟩
  ·rename_i ls' a b c d e f cs' hcl
   simp only [List.cons.injEq] at hcl
   obtain ⟨rfl,rfl⟩:=hcl
   split at h
   ·cases h
   ·rename_i as6 h6
    split at h
    ·cases h
    ·rename_i r hq
     obtain ⟨q1,q2⟩:=r
     simp at h
     obtain ⟨rfl,rfl⟩:=h
     unfold sixA at h6
     split at h6
     ·rename_i a' b' c' d' e' f' hsix
      cases h6
      simp only [List.cons.injEq,and_true] at hsix
      obtain ⟨rfl,rfl,rfl,rfl,rfl,rfl⟩:=hsix
      match vs,hr with
      | v0::v1::v2::v3::v4::v5::vs,hr =>
       obtain ⟨r0,r1,r2,r3,r4,r5,hr⟩:=hr
       obtain ⟨n1,n3⟩:=numA_ok (T:=T) (nn:=nn) r0 r1 r2 r3 r4 r5
       obtain ⟨g1,g3,g4⟩:=ih _ _ _ _ hq m nv vs hr
       refine ⟨fun hn=>⟨gen_append _ _ _ _ (n1 hn).1 fun e1 he1 ht1=>?_,?_⟩,by simp [lcount,L.n,g3,Nat.add_comm],fun e2 he2 ht2=>?_⟩
       ·have hx:MExt m nv al {m with env:=e1 } nv al:=⟨fun i hi=>he1 i (by omega),fun _ _=>rfl,rfl,fun _ _=>rfl,Nat.le_refl _,fun _ h=>h⟩
        exact ((ih _ _ _ _ hq {m with env:=e1 } nv vs (hr.mono hx)).1 (by omega)).1
       ·intro x hx
        rcases List.mem_cons.1 hx with rfl | hx
        ·exact A.ok_mono (n1 hn).2 (by simp)
        ·exact A.ok_mono ((g1 (by omega)).2 x hx) (by simp;omega)
       ·rw [Told.append] at ht2
        obtain ⟨n4,n5⟩:=n3 e2 he2 ht2.1
        obtain ⟨g5,g6⟩:=g4 e2 he2 ht2.2
        simp only [List.map_cons,lvals,lhas,g5,n4]
        exact ⟨rfl,n5,g6⟩
     ·cases h6
  ·rename_i cs' k n ls' hcl
   simp only [List.cons.injEq] at hcl
   obtain ⟨rfl,rfl⟩:=hcl
   split at h
   ·cases h
   ·rename_i as1 h6
    split at h
    ·rename_i hln
     simp only [Bool.and_eq_true,beq_iff_eq,decide_eq_true_eq] at hln
     split at h
     ·cases h
     ·rename_i r hq
      obtain ⟨q1,q2⟩:=r
      simp at h
      obtain ⟨rfl,rfl⟩:=h
      have hr1:Rels m nv al (as1.map (.int k)) (vs.take n):=by rw [<- intA_map h6];exact hr.take n
      obtain ⟨h1,h2⟩:=ints_all hr1
      obtain ⟨n1,n2,n3⟩:=arrA_ok (T:=T) (nn:=nn) hr1 (by omega)
      obtain ⟨g1,g3,g4⟩:=ih _ _ _ _ hq m nv _ (hr.drop n)
      refine ⟨fun hn=>⟨gen_append _ _ _ _ (n1 hn).1 fun e1 he1 ht1=>?_,?_⟩,by simp [lcount,L.n,g3,Nat.add_comm],fun e2 he2 ht2=>?_⟩
      ·have hx:MExt m nv al {m with env:=e1 } nv al:=⟨fun i hi=>he1 i (by omega),fun _ _=>rfl,rfl,fun _ _=>rfl,Nat.le_refl _,fun _ h=>h⟩
       exact ((ih _ _ _ _ hq {m with env:=e1 } nv _ ((hr.drop n).mono hx)).1 (by omega)).1
      ·intro x hx
       rcases List.mem_cons.1 hx with rfl | hx
       ·exact A.ok_mono (n1 hn).2 (by simp)
       ·exact A.ok_mono ((g1 (by omega)).2 x hx) (by simp;omega)
      ·rw [Told.append] at ht2
       have n4:=n3 e2 he2 ht2.1
       obtain ⟨g5,g6⟩:=g4 e2 he2 ht2.2
       simp only [List.map_cons,lvals,lhas,g5,n4,<- h1]
       refine ⟨List.take_append_drop n vs,⟨⟨by rw [List.length_map];omega,fun z hz=>?_⟩,by rw [List.length_map];exact hln.1⟩,g6⟩
       obtain ⟨x,hx,rfl⟩:=List.mem_map.1 hz
       exact (h2 x hx).2
    ·cases h
  ·cases h
end
theorem elt_rels_from {m:M} {nv nn:Nat} {al:Nat->Bool} {k:IntKind} {l:List Int} (he:dec (m.env nn)=l) (hk:(LK.int k).hasL l) (hn:nn<nv):∀ (n j:Nat),j+n=l.length->Rels m nv al (eltCs k nn n j) ((l.drop j).map (.int k))
 | 0,j,h=>by rw [List.drop_of_length_le (by omega)];trivial
 | n+1,j,h=>by
  have hj:j<l.length:=by omega
  rw [List.drop_eq_getElem_cons hj]
  have e1:A.ev m.env (.elt k nn j)=l[j]:=by simp only [A.ev,he];simp [hj]
  refine ⟨⟨⟨hn,by simp only [A.good,he];exact ⟨hk.2,hj⟩⟩,?_,?_⟩,elt_rels_from he hk hn n (j+1) (by omega)⟩
  ·rw [e1];exact hk.2 _ (List.getElem_mem hj)
  ·rw [e1]
theorem elt_rels {m:M} {nv nn:Nat} {al:Nat->Bool} {k:IntKind} {y:Int} {n:Nat} (he:m.env nn=y) (hk:(LK.int k).hasL (dec y)) (hl:(dec y).length=n) (hn:nn<nv):Rels m nv al (eltCs k nn n 0) ((dec y).map (.int k)):=by
 have:=elt_rels_from (m:=m) (nv:=nv) (al:=al) (l:=dec y) (by rw [he]) hk hn n 0 (by omega)
 simpa using this
section
variable {T:List K} {w0:World} {Y:St} {a:Act} {w:World}
theorem LL.sz_pos (l:LL):0<l.sz:=by cases l <;> simp [LL.sz]
theorem sz_pos (k:LK):0<k.sz:=by
 cases k with
 | num=>simp [LK.sz]
 | int k=>simp [LK.sz]
 | tup l ls=>have:=l.sz_pos;simp only [LK.sz];omega
 | byt=>simp [LK.sz]
theorem leafs_vals:∀ (ls:List LL) (xs:List Int),lhas (ls.map LL.leaf) xs->lvals (ls.map LL.leaf) xs=llVals ls xs/\llHas ls xs
 | [],[],_=>⟨rfl,trivial⟩
 | [],_::_,h=>h.elim
 | l::ls,[],h=>by cases l <;> exact h.elim
 | l::ls,x::xs,h=>by
  cases l with
  | num =>
   obtain ⟨i1,i2⟩:=leafs_vals ls xs h.2
   exact ⟨by show limbs x++lvals (ls.map LL.leaf) xs=limbs x++llVals ls xs;rw [i1],h.1,i2⟩
  | int k =>
   obtain ⟨i1,i2⟩:=leafs_vals ls xs h.2
   exact ⟨by show Value.int k x::lvals (ls.map LL.leaf) xs=[Value.int k x]++llVals ls xs;rw [i1];rfl,h.1,i2⟩
  | bit =>
   obtain ⟨i1,i2⟩:=leafs_vals ls xs h.2
   exact ⟨by show Value.bool (decide (x≠0))::lvals (ls.map LL.leaf) xs=[Value.bool (decide (x≠0))]++llVals ls xs;rw [i1];rfl,h.1,i2⟩
theorem takeK_ok {k:LK} {nn:Nat} {cs:List C} {ds:Defs} {y:A} {al:Nat->Bool} (h:takeK nn k cs=some (ds,y)) (m:M) (nv:Nat) (vs:List Value) (hr:Rels m nv al cs vs) :
  (nv<=nn->GenOk T m.env nn ds/\y.ok (nn+ds.length))/\∀ e',(∀ i,i<nv->e' i=m.env i)->Told T e' nn ds->k.vals (y.ev e')=vs/\k.has (y.ev e'):=by
 have one:∀ {r:Option (Defs×List A)},oneA r=some (ds,y)->r=some (ds,[y]):=fun {r} h=>by
  unfold oneA at h
  split at h
  ·cases h;rfl
  ·cases h
 cases k with
 | num =>
  obtain ⟨g1,_,g4⟩:=takeLs_ok (T:=T) _ _ _ _ _ (one h) m nv vs hr
  refine ⟨fun hn=>⟨(g1 hn).1,(g1 hn).2 y (by simp)⟩,fun e' he ht=>?_⟩
  obtain ⟨g5,g6⟩:=g4 e' he ht
  exact ⟨by rw [<- g5];simp [lvals,LK.vals],g6.1⟩
 | int k =>
  obtain ⟨g1,_,g4⟩:=takeLs_ok (T:=T) _ _ _ _ _ (one h) m nv vs hr
  refine ⟨fun hn=>⟨(g1 hn).1,(g1 hn).2 y (by simp)⟩,fun e' he ht=>?_⟩
  obtain ⟨g5,g6⟩:=g4 e' he ht
  exact ⟨by rw [<- g5];rfl,g6.1⟩
 | byt=>cases h
 | tup l ls =>
  unfold takeK at h
  simp only at h
  split at h
  ·rename_i ds0 as htk
   cases h
   obtain ⟨g1,_,g4⟩:=takeLs_ok (T:=T) _ _ _ _ _ htk m nv vs hr
   refine ⟨fun hn=>⟨gen_append _ _ _ _ (g1 hn).1 fun e1 he1 ht1=>⟨⟨trivial,(g1 hn).2⟩,trivial,trivial⟩,?_⟩,fun e' he ht=>?_⟩
   ·show nn+ds0.length<nn+(ds0++_).length
    simp
   ·obtain ⟨t1,t2⟩:=Told.append.1 ht
    have h0:e' (nn+ds0.length+0)=enc (dec 0++as.map (·.ev e')):=(t2 0 _ _ rfl).1
    rw [Nat.add_zero,dec_zero,List.nil_append] at h0
    obtain ⟨g5,g6⟩:=g4 e' he t1
    obtain ⟨g7,g8⟩:=leafs_vals (l::ls) _ g6
    show (LK.tup l ls).vals (e' (nn+ds0.length))=vs/\(LK.tup l ls).has (e' (nn+ds0.length))
    rw [h0]
    show llVals (l::ls) (dec (enc (as.map (·.ev e'))))=vs/\llHas (l::ls) (dec (enc (as.map (·.ev e'))))
    rw [dec_enc]
    exact ⟨by rw [<- g5,<- g7],g8⟩
  ·cases h
theorem Rels_split {m:M} {nv:Nat} {al:Nat->Bool}:∀ (n:Nat) {cs:List C} {vs:List Value},Rels m nv al cs vs->Rels m nv al (cs.take n) (vs.take n)/\Rels m nv al (cs.drop n) (vs.drop n)
 | 0,_,_,h=>⟨trivial,h⟩
 | n+1,[],[],_=>⟨trivial,trivial⟩
 | n+1,[],_::_,h=>h.elim
 | n+1,_::_,[],h=>h.elim
 | n+1,_::_,_::_,h=>⟨⟨h.1,(Rels_split n h.2).1⟩,(Rels_split n h.2).2⟩
theorem takeNK_ok {k:LK} {al:Nat->Bool}:∀ (n nn:Nat) (cs:List C) (ds:Defs) (as:List A),takeNK k nn n cs=some (ds,as)->∀ (m:M) (nv:Nat) (vs:List Value),Rels m nv al cs vs ->
  (nv<=nn->GenOk T m.env nn ds/\(∀ a∈as,a.ok (nn+ds.length)))/\as.length=n /\
  ∀ e',(∀ i,i<nv->e' i=m.env i)->Told T e' nn ds->flat k (as.map (·.ev e'))=vs/\∀ x∈as.map (·.ev e'),k.has x
 | 0,nn,cs,ds,as,h,m,nv,vs,hr=>by
  unfold takeNK at h
  split at h
  ·cases h
   match vs,hr with
   | [],_=>exact ⟨fun _=>⟨trivial,by simp⟩,rfl,fun e' _ _=>⟨rfl,by simp⟩⟩
  ·cases h
 | n+1,nn,cs,ds,as,h,m,nv,vs,hr=>by
  unfold takeNK at h
  split at h
  ·cases h
  ·rename_i d hd
   split at h
   ·cases h
   ·rename_i r hq
    cases h
    obtain ⟨q1,q2⟩:=Rels_split k.sz hr
    obtain ⟨n1,n3⟩:=takeK_ok (T:=T) (ds:=d.1) (y:=d.2) hd m nv _ q1
    obtain ⟨g1,g3,g4⟩:=takeNK_ok n _ _ r.1 r.2 hq m nv _ q2
    refine ⟨fun hn=>⟨gen_append _ _ _ _ (n1 hn).1 fun e1 he1 ht1=>?_,?_⟩,by rw [List.length_cons,g3],fun e2 he2 ht2=>?_⟩
    ·have hx:MExt m nv al {m with env:=e1 } nv al:=⟨fun i hi=>he1 i (by omega),fun _ _=>rfl,rfl,fun _ _=>rfl,Nat.le_refl _,fun _ h=>h⟩
     exact ((takeNK_ok n _ _ r.1 r.2 hq {m with env:=e1 } nv _ (q2.mono hx)).1 (by omega)).1
    ·intro x hx
     rcases List.mem_cons.1 hx with rfl | hx
     ·exact A.ok_mono (n1 hn).2 (by simp)
     ·exact A.ok_mono ((g1 (by omega)).2 x hx) (by simp;omega)
    ·rw [Told.append] at ht2
     obtain ⟨n4,n5⟩:=n3 e2 he2 ht2.1
     obtain ⟨g5,g6⟩:=g4 e2 he2 ht2.2
     refine ⟨?_,?_⟩
     ·show k.vals (d.2.ev e2)++flat k (r.2.map (·.ev e2))=vs
      rw [n4,g5,List.take_append_drop]
     ·intro x hx
      rcases List.mem_cons.1 hx with rfl | hx
      ·exact n5
      ·exact g6 x hx
theorem cellAdd_lt {w:World} {ad:Addr} {n:Nat} {v:Value} (h:w.cell? (ad.add n)=some v):ad.block<w.heap.size:=by
 have hb:(ad.add n).block=ad.block:=by unfold Addr.add;split <;> rfl
 unfold World.cell? at h
 rw [hb] at h
 rcases Nat.lt_or_ge ad.block w.heap.size with h' | h'
 ·exact h'
 ·rw [Array.getElem?_eq_none h'] at h;cases h
theorem takeSh_ok {s:Sh} {v:V} {nn:Nat} {ds:Defs} {as:List A} (h:takeSh Y nn s v=some (ds,as)) {m:M} (hrep:Rep w0 m Y a w) {u:Value} (hu:v.rel m Y.nv Y.al u) :
  (Y.nv<=nn->GenOk T m.env nn ds/\(∀ a∈as,a.ok (nn+ds.length)))/\as.length=lcount s.leaves /\
  ∀ e',(∀ i,i<Y.nv->e' i=m.env i)->Told T e' nn ds->lhas s.leaves (as.map (·.ev e'))/\s.rel w (as.map (·.ev e')) u:=by
 unfold takeSh at h
 split at h
 ·rename_i l c
  obtain ⟨g1,g3,g4⟩:=takeLs_ok (T:=T) _ _ _ _ _ h m Y.nv [u] ⟨hu,trivial⟩
  refine ⟨g1,g3,fun e' he ht=>?_⟩
  obtain ⟨g5,g6⟩:=g4 e' he ht
  exact ⟨g6,g5.symm⟩
 ·rename_i ls cs
  obtain ⟨vs,rfl,hr⟩:=hu
  obtain ⟨g1,g3,g4⟩:=takeLs_ok (T:=T) _ _ _ _ _ h m Y.nv vs hr
  refine ⟨g1,g3,fun e' he ht=>?_⟩
  obtain ⟨g5,g6⟩:=g4 e' he ht
  exact ⟨g6,by simp only [Sh.rel];rw [g5]⟩
 ·rename_i ls id off
  split at h
  ·cases h
  ·rename_i b hb
   obtain ⟨vs,hl,hr,hc⟩:=hrep.reads hb off ((b.cells.drop off).take (ls.foldl (fun n l=>n+(match l with | .num=>6 | .lst _=>0 | .arr _ n=>n | _=>1)) 0)).length (by rw [List.length_take];omega)
   have e0:(b.cells.drop off).take ((b.cells.drop off).take (ls.foldl (fun n l=>n+(match l with | .num=>6 | .lst _=>0 | .arr _ n=>n | _=>1)) 0)).length=(b.cells.drop off).take (ls.foldl (fun n l=>n+(match l with | .num=>6 | .lst _=>0 | .arr _ n=>n | _=>1)) 0):=by
    rw [List.length_take,List.take_eq_take_iff];omega
   rw [e0] at hr
   obtain ⟨g1,g3,g4⟩:=takeLs_ok (T:=T) _ _ _ _ _ h m Y.nv vs hr
   refine ⟨g1,g3,fun e' he ht=>?_⟩
   obtain ⟨g5,g6⟩:=g4 e' he ht
   refine ⟨g6,(m.rho id).1,(m.rho id).2+off,hu.2,fun j x hj=>?_⟩
   rw [g5] at hj
   have:=hc j x hj
   rw [at_add] at this
   simpa [M.at,Nat.add_assoc] using this
 ·rename_i k id
  split at h
  ·rename_i r hr
   split at h
   ·rename_i hk
    cases h
    have hk:=LKeq_ok hk
    subst hk
    have hu:Y.al id=true/\u=m.sv id/\u.oneCell'=true:=hu
    obtain ⟨q1,q2,_,_,q3⟩:=hrep.row_ok hr
    refine ⟨fun hn=>⟨trivial,fun x hx=>?_⟩,rfl,fun e' he _=>?_⟩
    ·rw [List.mem_singleton.1 hx];exact A.ok_mono q2.1 (by simpa using hn)
    ·simp only [List.map_cons,List.map_nil,Sh.leaves,lhas,Sh.rel,List.headD_cons]
     rw [A.ev_congr q2.1 he,hu.2.1]
     exact ⟨⟨q3.1,trivial⟩,q3.ro hrep.below.size⟩
   ·cases h
  ·cases h
 ·rename_i k
  cases h
  have hu:u=.slice none 0 0:=hu
  refine ⟨fun _=>⟨trivial,fun x hx=>by rw [List.mem_singleton.1 hx];trivial⟩,rfl,fun e' _ _=>?_⟩
  simp only [List.map_cons,List.map_nil,Sh.leaves,lhas,Sh.rel,List.headD_cons,A.ev,dec_zero]
  exact ⟨⟨⟨by simp,by simp⟩,trivial⟩,.inl ⟨hu,rfl⟩⟩
 ·rename_i k x
  split at h
  ·rename_i hk
   cases h
   have hk:=LKeq_ok hk
   subst hk
   obtain ⟨b1,b2,b3,b4⟩:=(show C.rel m Y.nv Y.al (.rol x) u from hu)
   refine ⟨fun hn=>⟨trivial,fun y hx=>?_⟩,rfl,fun e' he _=>?_⟩
   ·rw [List.mem_singleton.1 hx];exact A.ok_mono b1.1 (by simpa using hn)
   ·simp only [List.map_cons,List.map_nil,Sh.leaves,lhas,Sh.rel,List.headD_cons]
    rw [A.ev_congr b1.1 he]
    rw [hrep.base] at b3
    exact ⟨⟨b2,trivial⟩,b3.up hrep.below⟩
  ·cases h
 ·rename_i k id lo hi k'
  split at h
  ·rename_i r hr
   split at h
   ·rename_i hk
    simp only [Bool.and_eq_true] at hk
    cases h
    have hk1:=LKeq_ok hk.1
    have hk2:=LKeq_ok hk.2
    subst hk1
    subst hk2
    obtain ⟨b1,b2,b3,b4,b5,b6⟩:=(show C.rel m Y.nv Y.al (.slv id lo hi r.k) u from hu)
    obtain ⟨q1,q2,q5,q6,q3⟩:=hrep.row_ok hr
    rw [q3.lenV] at b4
    have ro:=(q3.ro hrep.below.size).view (lo:=(lo.ev m.env).toNat) (hi:=(hi.ev m.env).toNat) (by omega) (by omega) b5
    have hL:=q3.1.sub (hi.ev m.env).toNat (lo.ev m.env).toNat
    refine ⟨fun hn=>⟨⟨⟨A.ok_mono q2.1 hn,A.ok_mono b2.1 hn,A.ok_mono b3.1 hn⟩,by simp only [KK.has,D.ev,dec_enc];exact hL,trivial⟩,fun x hx=>by rw [List.mem_singleton.1 hx];show nn<nn+1;omega⟩,rfl,fun e' he ht=>?_⟩
    have h0:=(ht 0 _ _ rfl).1
    simp only [Nat.add_zero,D.ev] at h0
    rw [A.ev_congr q2.1 he,A.ev_congr b2.1 he,A.ev_congr b3.1 he] at h0
    simp only [List.map_cons,List.map_nil,Sh.leaves,lhas,Sh.rel,List.headD_cons,A.ev,h0,dec_enc]
    exact ⟨⟨hL,trivial⟩,ro⟩
   ·cases h
  ·cases h
 ·rename_i k id
  split at h
  ·rename_i r hr
   split at h
   ·rename_i hk
    simp only [Bool.and_eq_true] at hk
    cases h
    have hk1:=LKeq_ok hk.1
    subst hk1
    have hu:Y.al id=true/\u=m.sv id/\u.oneCell'=true:=hu
    obtain ⟨q1,q2,q5,q6,q3⟩:=hrep.row_ok hr
    have hb:=q3.1.1
    refine ⟨fun hn=>⟨⟨A.ok_mono q5.1 hn,by simp only [KK.has,D.ev,q6,has,lo,hi];omega,trivial⟩,fun x hx=>?_⟩,rfl,fun e' he ht=>?_⟩
    ·simp only [List.mem_cons,List.not_mem_nil,or_false] at hx
     rcases hx with rfl | rfl
     ·exact A.ok_mono q2.1 (by omega)
     ·show nn<nn+1;omega
    ·have h0:=(ht 0 _ _ rfl).1
     simp only [Nat.add_zero,D.ev] at h0
     rw [A.ev_congr q5.1 he,q6] at h0
     obtain ⟨bb,cap,hsv⟩:=q3.len
     have hv0:A.ev e' (.var nn)=((dec (r.x.ev m.env)).length:Int):=h0
     have hx0:A.ev e' r.x=A.ev m.env r.x:=A.ev_congr q2.1 he
     show lhas [.lst r.k,.int .i64] [A.ev e' r.x,A.ev e' (.var nn)]/\lentAt r.k (fun v'=>RoRow w w r.k v' (dec (A.ev e' r.x))) (dec (A.ev e' r.x)) (A.ev e' (.var nn)) u
     rw [hx0,hv0]
     refine ⟨⟨q3.1,by simp only [has,lo,hi];omega,trivial⟩,m.sv id,q3.ro hrep.below.size,q3.2.2 hk.2,by omega,?_⟩
     rw [hu.2.1,hsv,subV_zero,Int.toNat_natCast]
   ·cases h
  ·cases h
 ·rename_i k id lo hi k'
  split at h
  ·rename_i r hr
   split at h
   ·rename_i hk
    simp only [Bool.and_eq_true] at hk
    obtain ⟨⟨⟨hk1,hk2⟩,hk3⟩,hk4⟩:=hk
    cases h
    have hk1:=LKeq_ok hk1
    have hk2:=LKeq_ok hk2
    subst hk1
    subst hk2
    have hz0:=isZ_ok hk4
    subst hz0
    obtain ⟨b1,b2,b3,b4,b5,b6⟩:=(show C.rel m Y.nv Y.al (.slv id (.lit 0) hi r.k) u from hu)
    obtain ⟨q1,q2,q5,q6,q3⟩:=hrep.row_ok hr
    rw [q3.lenV] at b4
    have c1:0<=hi.ev m.env:=b4.2.1
    have c2:hi.ev m.env<=((dec (r.x.ev m.env)).length:Int):=b4.2.2.1
    have c3:=b4.2.2.2
    refine ⟨fun hn=>⟨trivial,fun x hx=>?_⟩,rfl,fun e' he ht=>?_⟩
    ·simp only [List.mem_cons,List.not_mem_nil,or_false] at hx
     rcases hx with rfl | rfl
     ·exact A.ok_mono q2.1 (by simpa using hn)
     ·exact A.ok_mono b3.1 (by simpa using hn)
    ·have hx0:A.ev e' r.x=A.ev m.env r.x:=A.ev_congr q2.1 he
     have hv0:A.ev e' hi=A.ev m.env hi:=A.ev_congr b3.1 he
     show lhas [.lst r.k,.int .i64] [A.ev e' r.x,A.ev e' hi]/\lentAt r.k (fun v'=>RoRow w w r.k v' (dec (A.ev e' r.x))) (dec (A.ev e' r.x)) (A.ev e' hi) u
     rw [hx0,hv0]
     exact ⟨⟨q3.1,by simp only [has,lo,Sx.hi];omega,trivial⟩,m.sv id,q3.ro hrep.below.size,q3.2.2 hk3,⟨c1,c2⟩,isView.zero b5⟩
   ·cases h
  ·cases h
 ·rename_i k
  cases h
  have hu:u=.slice none 0 0:=hu
  refine ⟨fun _=>⟨trivial,fun x hx=>?_⟩,rfl,fun e' _ _=>?_⟩
  ·simp only [List.mem_cons,List.not_mem_nil,or_false] at hx
   rcases hx with rfl | rfl <;> trivial
  ·simp only [List.map_cons,List.map_nil,Sh.leaves,lhas,Sh.rel,List.headD_cons,A.ev,dec_zero]
   exact ⟨⟨⟨by simp,by simp⟩,⟨by simp [has,lo,hi],trivial⟩⟩,.slice none 0 0,.inl ⟨rfl,rfl⟩,rfl,by simp,by rw [hu];rfl⟩
 ·rename_i k id off n c
  split at h
  ·cases h
  ·rename_i b hb
   split at h
   ·rename_i hcond
    simp only [Bool.and_eq_true,decide_eq_true_eq] at hcond
    obtain ⟨⟨⟨hn0,hnc⟩,hn2⟩,hlen⟩:=hcond
    split at h
    ·rename_i ds' as' htk
     cases h
     obtain ⟨vs,hvl,hr,hc⟩:=hrep.reads hb off (n*k.sz) hlen
     have hu:Y.al id=true/\u=.slice (some (m.at id off)) n c:=hu
     obtain ⟨g1,g3,g4⟩:=takeNK_ok (T:=T) _ _ _ _ _ htk m Y.nv vs hr
     have fin:∀ e',(∀ i,i<Y.nv->e' i=m.env i)->Told T e' nn ds'->k.hasL (as'.map (·.ev e'))/\RoRow w w k u (as'.map (·.ev e')):=fun e' he ht=>by
      obtain ⟨v1,v2⟩:=g4 e' he ht
      have hl:(as'.map (·.ev e')).length=n:=by rw [List.length_map,g3]
      have f1:=v1.symm
      refine ⟨⟨by rw [hl];omega,v2⟩,.inr ⟨m.at id off,c,by rw [hl];exact hu.2,?_,by rw [hl];exact hnc,fun j x hj=>hc j x (by rw [f1];exact hj)⟩⟩
      have hpos:0<vs.length:=by
       rw [hvl]
       exact Nat.mul_pos hn0 (sz_pos k)
      have h0:=hc 0 _ (List.getElem?_eq_getElem hpos)
      exact (.inr (cellAdd_lt h0))
     refine ⟨fun hn=>⟨gen_append _ _ _ _ (g1 hn).1 fun e1 he1 ht1=>⟨⟨trivial,(g1 hn).2⟩,?_,trivial⟩,?_⟩,rfl,fun e' he ht=>?_⟩
     ·simp only [KK.has,D.ev,A.ev,dec_zero,dec_enc,List.nil_append]
      exact (fin e1 (fun i hi=>he1 i (by omega)) ht1).1
     ·intro x hx
      rw [List.mem_singleton.1 hx]
      show nn+ds'.length<nn+(ds'++_).length
      simp
     ·obtain ⟨t1,t2⟩:=Told.append.1 ht
      have h0:=(t2 0 _ _ rfl).1
      simp only [Nat.add_zero,D.ev,A.ev,dec_zero,List.nil_append] at h0
      obtain ⟨f1,f2⟩:=fin e' he t1
      simp only [List.map_cons,List.map_nil,Sh.leaves,lhas,Sh.rel,List.headD_cons,A.ev,h0,dec_enc]
      exact ⟨⟨f1,trivial⟩,f2⟩
    ·cases h
   ·cases h
 ·rename_i k id off hi n
  split at h
  ·cases h
  ·rename_i b hb
   split at h
   ·rename_i hcond
    simp only [Bool.and_eq_true,decide_eq_true_eq] at hcond
    obtain ⟨⟨hn0,hn2⟩,hlen⟩:=hcond
    split at h
    ·rename_i ds' as' htk
     cases h
     obtain ⟨vs,hvl,hr,hc⟩:=hrep.reads hb off (n*k.sz) hlen
     obtain ⟨hu1,hu2,hu3,hu4⟩:=(show C.rel m Y.nv Y.al (.slS id off hi n) u from hu)
     obtain ⟨g1,g3,g4⟩:=takeNK_ok (T:=T) _ _ _ _ _ htk m Y.nv vs hr
     have fin:∀ e',(∀ i,i<Y.nv->e' i=m.env i)->Told T e' nn ds'->k.hasL (as'.map (·.ev e'))/\k.hasL ((as'.map (·.ev e')).take (hi.ev m.env).toNat)/\RoRow w w k u ((as'.map (·.ev e')).take (hi.ev m.env).toNat):=fun e' he ht=>by
      obtain ⟨v1,v2⟩:=g4 e' he ht
      have hl:(as'.map (·.ev e')).length=n:=by rw [List.length_map,g3]
      have f1:=v1.symm
      have hl2:((as'.map (·.ev e')).take (hi.ev m.env).toNat).length=(hi.ev m.env).toNat:=by rw [List.length_take,hl];omega
      refine ⟨⟨by rw [hl];omega,v2⟩,⟨by rw [hl2];omega,fun z hz=>v2 z (List.mem_of_mem_take hz)⟩,.inr ⟨m.at id off,n,by rw [hl2];exact hu4,?_,by rw [hl2];omega,fun j x hj=>?_⟩⟩
      ·have hpos:0<vs.length:=by
        rw [hvl]
        exact Nat.mul_pos hn0 (sz_pos k)
       have h0:=hc 0 _ (List.getElem?_eq_getElem hpos)
       exact (.inr (cellAdd_lt h0))
      ·rw [flat_take,List.getElem?_take] at hj
       split at hj
       ·exact hc j x (by rw [f1];exact hj)
       ·cases hj
     refine ⟨fun hn=>⟨gen_append _ _ _ _ (g1 hn).1 fun e1 he1 ht1=>⟨⟨trivial,(g1 hn).2⟩,?_,⟨by show nn+ds'.length<nn+ds'.length+1;omega,trivial,A.ok_mono hu2.1 (by omega)⟩,?_,trivial⟩,?_⟩,rfl,fun e' he ht=>?_⟩
     ·simp only [KK.has,D.ev,A.ev,dec_zero,dec_enc,List.nil_append]
      exact (fin e1 (fun i hi=>he1 i (by omega)) ht1).1
     ·have hx:=fin e1 (fun i hi=>he1 i (by omega)) ht1
      have h1:∀ v:Int,A.ev (upd e1 (nn+ds'.length) v) hi=A.ev m.env hi:=fun v=>A.ev_congr hu2.1 fun i hi=>by simp only [upd];rw [if_neg (by omega)];exact he1 i (by omega)
      simp only [KK.has,D.ev,h1]
      simp only [A.ev,upd,if_true,dec_zero,dec_enc,List.nil_append,Int.toNat_zero,List.drop_zero]
      exact hx.2.1
     ·intro x hx
      rw [List.mem_singleton.1 hx]
      show nn+(ds'.length+1)<nn+(ds'++_).length
      simp
     ·obtain ⟨t1,t2⟩:=Told.append.1 ht
      have h0:=(t2 0 _ _ rfl).1
      have h1:=(t2 1 _ _ rfl).1
      simp only [Nat.add_zero,D.ev,A.ev,dec_zero,List.nil_append] at h0
      obtain ⟨f1,f2,f3⟩:=fin e' he t1
      simp only [D.ev,A.ev_congr hu2.1 he] at h1
      simp only [A.ev,h0,dec_enc,Int.toNat_zero,List.drop_zero] at h1
      rw [Nat.add_assoc] at h1
      simp only [List.map_cons,List.map_nil,Sh.leaves,lhas,Sh.rel,List.headD_cons,A.ev,h1,dec_enc]
      exact ⟨⟨f2,trivial⟩,f3⟩
    ·cases h
   ·cases h
 ·cases h
theorem takeRs_ok:∀ (cs:List C) (nn:Nat) (ds:Defs) (as:List A),takeRs Y nn cs=some (ds,as)->∀ {m:M},Rep w0 m Y a w->∀ {us:List Value},Rels m Y.nv Y.al cs us ->
  (Y.nv<=nn->GenOk T m.env nn ds/\(∀ a∈as,a.ok (nn+ds.length)))/\as.length=cs.length /\
  ∀ e',(∀ i,i<Y.nv->e' i=m.env i)->Told T e' nn ds->∀ (j:Nat) x,as[j]?=some x->(LK.int .u8).hasL (dec (x.ev e'))/\∃ u,us[j]?=some u/\RoRow w w (.int .u8) u (dec (x.ev e')):=by
 intro cs
 induction cs with
 | nil =>
  intro nn ds as h m _ us hu
  cases h
  exact ⟨fun _=>⟨trivial,by simp⟩,rfl,fun e' _ _ j x hj=>by simp at hj⟩
 | cons c cs ih =>
  intro nn ds as h m hrep us hu
  cases us with
  | nil=>exact hu.elim
  | cons u us =>
   unfold takeRs at h
   split at h
   ·rename_i d1 y hd
    split at h
    ·rename_i r hr
     obtain ⟨r1,r2⟩:=r
     simp only [Option.some.injEq,Prod.mk.injEq] at h
     obtain ⟨rfl,rfl⟩:=h
     obtain ⟨g1,g3,g4⟩:=takeSh_ok (T:=T) hd hrep (u:=u) (show V.rel m Y.nv Y.al (.one c) u from hu.1)
     have tl:=ih _ _ _ hr hrep hu.2
     refine ⟨fun hn=>⟨gen_append _ _ _ _ (g1 hn).1 fun e1 he1 _=>?_,?_⟩,by simp [tl.2.1],fun e2 he2 ht2=>?_⟩
     ·have hx:MExt m Y.nv Y.al {m with env:=e1 } Y.nv Y.al:=⟨fun i hi=>he1 i (by omega),fun _ _=>rfl,rfl,fun _ _=>rfl,Nat.le_refl _,fun _ h=>h⟩
      exact ((ih _ _ _ hr (hrep.names e1 (fun i hi=>he1 i (by omega)) Y.nv (Nat.le_refl _)) (hu.2.mono hx)).1 (by show Y.nv<=_;omega)).1
     ·intro x hx
      rcases List.mem_cons.1 hx with rfl | hx
      ·exact A.ok_mono ((g1 hn).2 x (by simp)) (by simp)
      ·exact A.ok_mono ((tl.1 (by omega)).2 x hx) (by simp;omega)
     ·rw [Told.append] at ht2
      obtain ⟨h1,h2⟩:=g4 e2 he2 ht2.1
      have h3:=tl.2.2 e2 he2 ht2.2
      intro j x hj
      cases j with
      | zero =>
       simp at hj
       subst hj
       exact ⟨h1.1,u,rfl,h2⟩
      | succ j=>simpa using h3 j x (by simpa using hj)
    ·cases h
   ·cases h
theorem takeLl_ok {v:V} {nn:Nat} {ds:Defs} {as:List A} (h:takeLl Y nn v=some (ds,as)) {m:M} (hrep:Rep w0 m Y a w) {u:Value} (hu:v.rel m Y.nv Y.al u) :
  (Y.nv<=nn->GenOk T m.env nn ds/\(∀ a∈as,a.ok (nn+ds.length)))/\as.length=1 /\
  ∀ e',(∀ i,i<Y.nv->e' i=m.env i)->Told T e' nn ds->lhas [.lst .byt] (as.map (·.ev e'))/\Sh.rel w (as.map (·.ev e')) .ll u:=by
 unfold takeLl at h
 split at h
 ·rename_i x
  cases h
  obtain ⟨b1,b2,b3⟩:=(show C.rel m Y.nv Y.al (.ll x) u from hu)
  refine ⟨fun hn=>⟨trivial,fun y hx=>?_⟩,rfl,fun e' he _=>?_⟩
  ·rw [List.mem_singleton.1 hx];exact A.ok_mono b1.1 (by simpa using hn)
  ·simp only [List.map_cons,List.map_nil,lhas,Sh.rel,List.headD_cons]
   rw [A.ev_congr b1.1 he]
   rw [hrep.base] at b2
   exact ⟨⟨b2.1,trivial⟩,b2.up hrep.below⟩
 ·cases h
  have hu:u=.slice none 0 0:=hu
  refine ⟨fun _=>⟨trivial,fun x hx=>by rw [List.mem_singleton.1 hx];trivial⟩,rfl,fun e' _ _=>?_⟩
  simp only [List.map_cons,List.map_nil,lhas,Sh.rel,List.headD_cons,A.ev,dec_zero]
  exact ⟨⟨⟨by simp,by simp⟩,trivial⟩,⟨by simp,by simp⟩,.inl ⟨hu,rfl⟩⟩
 ·rename_i id off n c
  split at h
  ·cases h
  ·rename_i b hb
   split at h
   ·rename_i hcond
    simp only [Bool.and_eq_true,decide_eq_true_eq] at hcond
    obtain ⟨⟨⟨hn0,hnc⟩,hn2⟩,hlen⟩:=hcond
    split at h
    ·rename_i r htk
     obtain ⟨ds',as'⟩:=r
     cases h
     obtain ⟨vs,hvl,hr,hc⟩:=hrep.reads hb off n hlen
     have hu:Y.al id=true/\u=.slice (some (m.at id off)) n c:=hu
     obtain ⟨g1,g3,g4⟩:=takeRs_ok (T:=T) _ _ _ _ htk hrep hr
     have g3:as'.length=n:=by rw [g3,List.length_take];omega
     have fin:∀ e',(∀ i,i<Y.nv->e' i=m.env i)->Told T e' nn ds'->RoLol w u (as'.map (·.ev e')):=fun e' he ht=>by
      have v1:=g4 e' he ht
      have hl:(as'.map (·.ev e')).length=n:=by rw [List.length_map,g3]
      refine ⟨⟨by rw [hl];omega,fun z hz=>?_⟩,.inr ⟨m.at id off,c,by rw [hl];exact hu.2,?_,by rw [hl];exact hnc,fun j x hj=>?_⟩⟩
      ·obtain ⟨x,hx,rfl⟩:=List.mem_map.1 hz
       obtain ⟨j,hj⟩:=List.mem_iff_getElem?.1 hx
       exact (v1 j x hj).1
      ·have hpos:0<vs.length:=by rw [hvl];exact hn0
       exact cellAdd_lt (hc 0 _ (List.getElem?_eq_getElem hpos))
      ·rw [List.getElem?_map] at hj
       obtain ⟨y,hy,rfl⟩:=Option.map_eq_some_iff.1 hj
       obtain ⟨_,u',k1,k2⟩:=v1 j y hy
       exact ⟨u',hc j u' k1,k2⟩
     refine ⟨fun hn=>⟨gen_append _ _ _ _ (g1 hn).1 fun e1 he1 ht1=>⟨⟨trivial,(g1 hn).2⟩,?_,trivial⟩,?_⟩,rfl,fun e' he ht=>?_⟩
     ·simp only [KK.has,D.ev,A.ev,dec_zero,dec_enc,List.nil_append]
      exact (fin e1 (fun i hi=>he1 i (by omega)) ht1).1
     ·intro x hx
      rw [List.mem_singleton.1 hx]
      show nn+ds'.length<nn+(ds'++_).length
      simp
     ·obtain ⟨t1,t2⟩:=Told.append.1 ht
      have h0:=(t2 0 _ _ rfl).1
      simp only [Nat.add_zero,D.ev,A.ev,dec_zero,List.nil_append] at h0
      have f2:=fin e' he t1
      simp only [List.map_cons,List.map_nil,lhas,Sh.rel,List.headD_cons,A.ev,h0,dec_enc]
      exact ⟨⟨f2.1,trivial⟩,f2⟩
    ·cases h
   ·cases h
 ·cases h
theorem takeArg_ok {s:Sh} {v:V} {nn:Nat} {ds:Defs} {as:List A} (h:takeArg Y nn s v=some (ds,as)) {m:M} (hrep:Rep w0 m Y a w) {u:Value} (hu:v.rel m Y.nv Y.al u) :
  (Y.nv<=nn->GenOk T m.env nn ds/\(∀ a∈as,a.ok (nn+ds.length)))/\as.length=lcount s.leaves /\
  ∀ e',(∀ i,i<Y.nv->e' i=m.env i)->Told T e' nn ds->lhas s.leaves (as.map (·.ev e'))/\s.rel w (as.map (·.ev e')) u:=by
 cases s with
 | ll=>exact takeLl_ok h hrep hu
 | _=>exact takeSh_ok h hrep hu
theorem takeIns_ok:∀ (ss:List Sh) (vs:List V) (nn:Nat) (ds:Defs) (as:List A),takeIns Y nn ss vs=some (ds,as)->∀ {m:M},Rep w0 m Y a w->∀ {us:List Value},VRels m Y.nv Y.al vs us ->
  (Y.nv<=nn->GenOk T m.env nn ds/\(∀ a∈as,a.ok (nn+ds.length))) /\
  ∀ e',(∀ i,i<Y.nv->e' i=m.env i)->Told T e' nn ds->insRel w ss (as.map (·.ev e')) us:=by
 intro ss
 induction ss with
 | nil =>
  intro vs nn ds as h m _ us hu
  unfold takeIns at h
  split at h
  ·cases h
   match us,hu with
   | [],_=>exact ⟨fun _=>⟨trivial,by simp⟩,fun e' _ _=>⟨rfl,rfl⟩⟩
  ·simp_all
  ·cases h
 | cons s ss ih =>
  intro vs nn ds as h m hrep us hu
  unfold takeIns at h
  split at h
  ·simp_all
  ·rename_i s' ss' v vs' hss
   simp only [List.cons.injEq] at hss
   obtain ⟨rfl,rfl⟩:=hss
   split at h
   ·cases h
   ·rename_i d hd
    obtain ⟨d1,d2⟩:=d
    simp only at h
    split at h
    ·cases h
    ·rename_i r hr
     obtain ⟨r1,r2⟩:=r
     simp at h
     obtain ⟨rfl,rfl⟩:=h
     match us,hu with
     | u::us,hu =>
      obtain ⟨g1,g3,g4⟩:=takeArg_ok (T:=T) hd hrep hu.1
      have tl:=ih _ _ _ _ hr hrep hu.2
      refine ⟨fun hn=>⟨gen_append _ _ _ _ (g1 hn).1 fun e1 he1 _=>?_,?_⟩,fun e2 he2 ht2=>?_⟩
      ·have hx:MExt m Y.nv Y.al {m with env:=e1 } Y.nv Y.al:=⟨fun i hi=>he1 i (by omega),fun _ _=>rfl,rfl,fun _ _=>rfl,Nat.le_refl _,fun _ h=>h⟩
       exact ((ih _ _ _ _ hr (hrep.names e1 (fun i hi=>he1 i (by omega)) Y.nv (Nat.le_refl _)) (hu.2.mono hx)).1 (by show Y.nv<=_;omega)).1
      ·intro x hx
       rcases List.mem_append.1 hx with hx | hx
       ·exact A.ok_mono ((g1 hn).2 x hx) (by simp)
       ·exact A.ok_mono ((tl.1 (by omega)).2 x hx) (by simp;omega)
      ·rw [Told.append] at ht2
       obtain ⟨h1,h2⟩:=g4 e2 he2 ht2.1
       have h3:=tl.2 e2 he2 ht2.2
       have e1:(List.map (fun x=>A.ev e2 x) d2++List.map (fun x=>A.ev e2 x) r2).take (lcount s.leaves)=List.map (fun x=>A.ev e2 x) d2:=by
        rw [List.take_append_of_le_length (by simp [g3]),List.take_of_length_le (by simp [g3])]
       have e2':(List.map (fun x=>A.ev e2 x) d2++List.map (fun x=>A.ev e2 x) r2).drop (lcount s.leaves)=List.map (fun x=>A.ev e2 x) r2:=by
        rw [List.drop_append_of_le_length (by simp [g3]),List.drop_of_length_le (by simp [g3])];rfl
       simp only [List.map_append,insRel,e1,e2']
       exact ⟨h1,h2,h3⟩
  ·cases h
end
end Go.Sx



namespace Go.Sx
open Go Go.RowKit
theorem leaf_vals {k:LK} {x:Int} (hk:∀ l ls,k≠.tup l ls):lvals [k.leaf] [x]=k.vals x:=by
 cases k with
 | num=>simp [LK.leaf,lvals,LK.vals]
 | int k=>simp [LK.leaf,lvals,LK.vals]
 | tup l ls=>exact absurd rfl (hk l ls)
 | byt=>rfl
theorem LL.vals_one (l:LL) (x:Int):∀ u∈l.vals x,u.oneCell'=true:=by
 cases l with
 | num=>intro u hu;simp only [LL.vals,limbs,List.mem_map] at hu;obtain ⟨j,_,rfl⟩:=hu;rfl
 | int k=>intro u hu;simp only [LL.vals,List.mem_singleton] at hu;subst hu;rfl
 | bit=>intro u hu;simp only [LL.vals,List.mem_singleton] at hu;subst hu;rfl
theorem llVals_one:∀ (ls:List LL) (xs:List Int),∀ u∈llVals ls xs,u.oneCell'=true
 | [],_,u,hu=>by cases hu
 | l::ls,xs,u,hu=>by
  rcases List.mem_append.1 hu with hu | hu
  ·exact LL.vals_one l _ u hu
  ·exact llVals_one ls _ u hu
theorem vals_one (k:LK) (x:Int):∀ u∈k.vals x,u.oneCell'=true:=by
 cases k with
 | num=>intro u hu;simp only [LK.vals,limbs,List.mem_map] at hu;obtain ⟨j,_,rfl⟩:=hu;rfl
 | int k=>intro u hu;simp only [LK.vals,List.mem_singleton] at hu;subst hu;rfl
 | tup l ls=>exact llVals_one (l::ls) _
 | byt=>intro u hu;simp only [LK.vals,List.mem_singleton] at hu;subst hu;rfl
theorem flat_cons (k:LK) (x:Int) (l:List Int):flat k (x::l)=k.vals x++flat k l:=rfl
theorem flat_set (k:LK):∀ (l:List Int) (i:Nat) (y:Int),i<l.length->flat k (l.set i y)=(flat k l).take (i*k.sz)++k.vals y++(flat k l).drop (i*k.sz+k.sz)
 | [],i,y,h=>by simp at h
 | x::l,0,y,_=>by
  rw [List.set_cons_zero,flat_cons,flat_cons,Nat.zero_mul,Nat.zero_add,List.take_zero,List.nil_append,<- vals_len k x,List.drop_left]
 | x::l,i+1,y,h=>by
  have hi:=flat_set k l i y (by simpa using h)
  rw [List.set_cons_succ,flat_cons,hi,flat_cons]
  have e1:(i+1)*k.sz=(k.vals x).length+i*k.sz:=by rw [vals_len,Nat.add_mul];omega
  rw [e1,Nat.add_assoc,List.take_length_add_append,List.drop_length_add_append]
  simp [List.append_assoc]
theorem take_mid {α:Type} {c vs:List α} {off n:Nat} (h:off+vs.length<=n):(c.take off++vs++c.drop (off+vs.length)).take n=(c.take n).take off++vs++(c.take n).drop (off+vs.length):=by
 by_cases hc:off<=c.length
 ·rw [List.append_assoc,List.take_append,List.take_append,List.take_of_length_le (l:=c.take off) (by rw [List.length_take];omega),List.take_of_length_le (l:=vs) (by rw [List.length_take];omega),
   List.take_take,Nat.min_eq_left (by omega),List.append_assoc,List.length_take,Nat.min_eq_left hc,List.drop_take,Nat.sub_sub]
 ·have hc':c.length<=off:=by omega
  rw [List.take_of_length_le hc',List.drop_of_length_le (by omega),List.append_nil,List.take_of_length_le (l:=c++vs) (by rw [List.length_append];omega),List.take_of_length_le (l:=c.take n) (by rw [List.length_take];omega),
   List.take_of_length_le (l:=c) (by omega),List.drop_of_length_le (by omega),List.append_nil]
section
variable {P:Program} {T:List K} {w0:World} {m:M} {Y:St} {a:Act} {w:World} {o:Oper} {nn nid:Nat} {p:Plan}
theorem flat_u8 (l:List Int):flat (.int .u8) l=l.map (Value.int .u8):=by
 induction l with
 | nil=>rfl
 | cons x l ih=>simp only [flat,List.flatMap_cons,List.map_cons] at *;rw [ih];rfl
theorem takeLst_wf {k:LK} {v:V} {ds:Defs} {y:A} (ht:takeSh Y nn (.lst k) v=some (ds,[y])) (h:Rep w0 m Y a w) (hd:DefsOk T m.env Y.nv nn ds) {u:Value} (hu:v.rel m Y.nv Y.al u):y.wf Y.nv m.env:=by
 have hlt:=hd.1
 cases v with
 | agg cs=>cases ht
 | one c =>
  cases c with
  | sl id =>
   simp only [takeSh] at ht
   split at ht
   ·rename_i r hr
    split at ht
    ·cases ht;exact (h.row_ok hr).2.1
    ·cases ht
   ·cases ht
  | nilslice=>cases ht;exact ⟨trivial,trivial⟩
  | rol x =>
   simp only [takeSh] at ht
   split at ht
   ·cases ht;exact (show C.rel m Y.nv Y.al (.rol y) u from hu).1
   ·cases ht
  | slv id lo hi k' =>
   simp only [takeSh] at ht
   split at ht
   ·split at ht
    ·cases ht
     simp only [List.length_cons,List.length_nil] at hlt
     exact ⟨by show nn<Y.nv;omega,trivial⟩
    ·cases ht
   ·cases ht
  | slice id off n c =>
   simp only [takeSh] at ht
   split at ht
   ·cases ht
   ·split at ht
    ·split at ht
     ·cases ht
      simp only [List.length_append,List.length_cons,List.length_nil] at hlt
      exact ⟨by show nn+_<Y.nv;omega,trivial⟩
     ·cases ht
    ·cases ht
  | slS id off hi n =>
   simp only [takeSh] at ht
   split at ht
   ·cases ht
   ·split at ht
    ·split at ht
     ·cases ht
      simp only [List.length_append,List.length_cons,List.length_nil] at hlt
      exact ⟨by show nn+_<Y.nv;omega,trivial⟩
     ·cases ht
    ·cases ht
  | _=>cases ht
theorem pure_convert {s d:TypeId} {x:Operand} (h:Rep w0 m Y a w) (ho:o.op=.convert s d x) (hm:markP P Y s d x=none) (hp:plan P T Y nn nid o.op=.ok p) (hd:DefsOk T m.env Y.nv nn p.defs):PureOk P m Y a w o p.val:=by
 rw [ho] at hp
 simp only [plan,hm] at hp
 split at hp
 ·rename_i ds k k' y hs hu hx
  have h1:=h.cell hx
  have key:(execOp a.eval o).run P w=.ok (.value (.int k (wr k (y.ev m.env)))) w:=by
   simp only [execOp,ho,h1.2.2,convert]
   simp [run_underlying hs,run_underlying hu,Conv.intToInt,wr_eq]
  split at hp
  ·rename_i hk
   cases hp
   have h2:=subKind_has hk h1.2.1
   rw [wr_id h2] at key
   exact ⟨_,key,h1.1,h2,rfl⟩
  ·obtain ⟨z,hz,hk,he⟩:=mkP_ok hp hd
   rw [hz]
   refine ⟨_,key,hk,by rw [he];exact wr_has _ _,?_⟩
   rw [he];rfl
 ·rename_i e c hs hu hx
  have h1:=h.cell hx
  split at hp
  ·rename_i ds y he htk
   cases hp
   obtain ⟨_,g3,g4⟩:=takeSh_ok (T:=T) htk h (u:=a.eval x) h1
   obtain ⟨f1,f2⟩:=g4 m.env (fun _ _=>rfl) hd.2
   have f1:(LK.int .u8).hasL (dec (y.ev m.env)):=f1.1
   have f2:RoRow w w (.int .u8) (a.eval x) (dec (y.ev m.env)):=f2
   have wy:=takeLst_wf htk h hd (u:=a.eval x) h1
   refine ⟨.string (strOfNums (dec (y.ev m.env))),?_,wy,f1,rfl⟩
   generalize dec (y.ev m.env)=l at *
   rcases f2 with ⟨k1,k2⟩ | ⟨ad,cap,k1,_,k3,k4⟩
   ·simp only [execOp,ho,k1]
    rw [k2]
    simp [run_convert_bytes_nil w s e hs he 0 0 d hu,strOfNums]
    rfl
   ·have hl:(loadCells ad l.length).run P w=.ok (l.map (Value.int .u8)).toArray w:=by
     have:=run_loadCells_list (P:=P) w ad (l.map (Value.int .u8)) (fun j v hj=>k4 j v (by rw [flat_u8];exact hj))
     rwa [List.length_map] at this
    simp only [execOp,ho,k1]
    simp [run_convert_bytes_string w s d e (some ad) l.length cap hs he hu,run_bytesToString w ad l.length cap l hl,foldl_push_bytes,strOfNums]
  ·cases hp
 ·cases hp
theorem List.set_map_int {k:IntKind} (l:List Int) (q:Nat) (x:Int):(l.map (Value.int k)).set q (.int k x)=(l.set q x).map (Value.int k):=by
 rw [List.map_set]
theorem markP_spec {s d:TypeId} {x:Operand} {p:Plan} (hm:markP P Y s d x=some p):∃ id n n' b e,d=s/\P.underlying s=some (.slice e)/\P.underlying e=some (.int .u8)/\Y.cell x=some (.slice id 0 n n')/\Y.box id=some b/\b.own=true/\b.fz=(0,0)/\b.cells.length=n/\p={val:=.vl (.one (.slice id 0 n n')),eff:=.wr id .mark }:=by
 unfold markP at hm
 split at hm
 ·rename_i hsd
  have hsd:s=d:=by simpa using hsd
  subst hsd
  split at hm
  ·rename_i e id n n' hu hx
   split at hm
   ·rename_i b he hb
    split at hm
    ·rename_i hc
     simp only [Bool.and_eq_true,beq_iff_eq] at hc
     obtain ⟨⟨⟨c1,c2⟩,c3⟩,c4⟩:=hc
     cases hm
     exact ⟨id,n,n',b,e,rfl,hu,he,hx,hb,c1,c2,c4,rfl⟩
    ·cases hm
   ·cases hm
  ·cases hm
 ·cases hm
theorem mark_ok {s d:TypeId} {x:Operand} {p:Plan} (h:Rep w0 m Y a w) (ho:o.op=.convert s d x) (hm:markP P Y s d x=some p) :
  ∃ (id:Nat) (b:Box) (w':World) (c:C) (v:Value),p.val=.vl (.one c)/\p.eff=.wr id .mark/\Y.boxes[id]?=some (some b)/\(execOp a.eval o).run P w=.ok (.value v) w'/\c.rel m Y.nv Y.al v/\Rep w0 m (Y.setBox id (b.upd .mark)) a w':=by
 obtain ⟨id,n,n',b,e,rfl,hu,he,hx,hb,c1,c2,c3,rfl⟩:=markP_spec hm
 have h1:=h.cell hx
 obtain ⟨hz,hge,us,hus,hrels⟩:=h.own id b (box_some hb) c1
 rw [c2] at hus
 have hl:=Rels.length hrels
 let f:Obj->Obj:=fun | .cells c elem (lo,hi)=>.cells c elem (if lo==hi then (us.length,us.length+1) else (min lo us.length,max hi (us.length+1))) | o=>o
 refine ⟨id,b,{w with heap:=w.heap.modify (m.rho id).1 f },_,_,rfl,rfl,box_some hb,?_,h1,h.mark (f:=f) (box_some hb) c1 hus hl.symm (by simp [f])⟩
 have had:m.at id 0=⟨(m.rho id).1,0,none⟩:=by simp [M.at,hz]
 have hsh:w.shape? (m.rho id).1=some (b.elem,us.length):=by
  unfold World.shape?
  rw [hus];simp
 simp only [execOp,ho,h1.2,had]
 have hfr:w.freeze ⟨(m.rho id).1,us.length,none⟩ 1={w with heap:=w.heap.modify (m.rho id).1 f }:=by
  unfold World.freeze
  rw [if_neg (by decide)]
  rfl
 simp [convert,run_underlying hu,run_underlying he,markStringish,hsh]
 exact hfr
def Stored (P:Program) (w0:World) (m:M) (Y:St) (a:Act) (w:World) (o:Oper) (p:Plan):Prop :=
 ∃ (id:Nat) (u:Upd) (b:Box) (w':World),p.val=.tup []/\p.eff=.wr id u/\Y.boxes[id]?=some (some b)/\(execOp a.eval o).run P w=.ok .skip w'/\Rep w0 m (Y.setBox id (b.upd u)) a w'
theorem run_store_ok {t:TypeId} {x y:Operand} (h:Rep w0 m Y a w) (ho:o.op=.store t x y) (hp:plan P T Y nn nid o.op=.ok p) (hD:DefsOk T m.env Y.nv nn p.defs) :
  Stored P w0 m Y a w o p:=by
 rw [ho] at hp
 simp only [plan] at hp
 split at hp
 ·rename_i id off v hx hy
  have h1:=h.cell hx
  split at hp
  ·rename_i b n hb hn
   split at hp
   ·rename_i hc
    simp only [Bool.and_eq_true,decide_eq_true_eq,beq_iff_eq] at hc
    obtain ⟨⟨⟨⟨hc1,hcf⟩,hc2⟩,hc3⟩,hc4⟩:=hc
    cases hp
    obtain ⟨vs,g1,g2,g3⟩:=V.rel_cells (h.v_ hy) hc3
    obtain ⟨hz,_,us,hus,hrels⟩:=h.own id b (box_some hb) hc1
    rw [hcf] at hus
    refine ⟨id,_,b,_,rfl,rfl,box_some hb,?_,h.wr (off:=off) (box_some hb) hc1 hus g2⟩
    have hl:=Rels.length g2
    have hlu:=Rels.length hrels
    have hst:=run_storeCells_at P (m.rho id).1 off b.elem vs 0 us.toArray w hus (by simp;omega) g3
    have had:(m.at id off)=⟨(m.rho id).1,off,none⟩:=by simp [M.at,hz]
    simp only [execOp,ho,h1.2,Instr.storeAt,Instr.sureAddr,had]
    have hsz:¬ (a.eval y).cells.size≠n:=by rw [g1];simp;omega
    simp only [storeVar,Sem.run_bind,Sem.run_pure,Result.andThen_ok,run_sizeOf hn]
    rw [if_neg hsz,g1]
    simp only [Nat.add_zero] at hst
    simp [hst]
   ·cases hp
  ·cases hp
 ·rename_i id off i n k x' hx hy
  obtain ⟨h1a,h1b,h1c,h1d⟩:=h.cell hx
  have h2:C.rel m Y.nv Y.al (.int k x') (a.eval y):=h.v_ hy
  split at hp
  ·rename_i b hb hn
   split at hp
   ·rename_i r hr
    split at hp
    ·rename_i hc
     simp only [Bool.and_eq_true,beq_iff_eq] at hc
     obtain ⟨⟨⟨hc1,hcf⟩,hc2⟩,hc3⟩:=hc
     have hcs:=intsOf_ok hr
     obtain ⟨hz,_,us,hus,hrels⟩:=h.own id b (box_some hb) hc1
     rw [hcf] at hus
     have hlu:=Rels.length hrels
     have hen:off+n<=us.length∨n=0:=by
      have:=congrArg List.length hcs
      rw [List.length_map,hc2,List.length_take,List.length_drop] at this
      omega
     have hen:off+n<=us.length:=by omega
     have hsub:Rels m Y.nv Y.al (r.2.map (.int r.1)) ((us.drop off).take n):=by rw [<- hcs];exact (hrels.drop off).take n
     obtain ⟨q,hq⟩:=Int.eq_ofNat_of_zero_le h1c.1
     have hqn:q<n:=by omega
     have hkk:r.1=k:=hc3
     subst hkk
     have hv:(a.eval y).cells=#[.int r.1 (x'.ev m.env)]:=by rw [h2.2.2];rfl
     split at hp
     ·cases hp
      refine ⟨id,_,b,_,rfl,rfl,box_some hb,?_,h.wr (off:=off) (vs:=((us.drop off).take n).set q (.int r.1 (x'.ev m.env))) (box_some hb) hc1 hus ?_⟩
      rotate_left
      ·refine Rels.of_get (by rw [putCs_len];simp;omega) fun j c hj=>?_
       obtain ⟨hjn,rfl⟩:=putCs_get _ _ _ _ _ hj
       have hdj:(putDs r.1 i x' r.2 0)[j]?=some (.int r.1,.put i j x' (r.2[j]'(by omega))):=by
        rw [putDs_get,List.getElem?_eq_getElem (by omega)];simp
       have he:=DefsOk.snd (i:=j) hD hdj
       simp only [D.ev,hq] at he
       obtain ⟨g1,g2⟩:=sel_ok hsub (i:=j) (by omega)
       have hgd:(r.2.map (·.ev m.env)).getD j 0=(r.2[j]'(by omega)).ev m.env:=by simp [List.getD_eq_getElem?_getD,hc2,hjn]
       rw [hgd] at g1 g2
       have hnv:nn+j<Y.nv:=by have:=hD.1;simp only [putDs_len,hc2] at this;omega
       by_cases hqj:q=j
       ·subst hqj
        simp only [if_true] at he
        refine ⟨_,List.getElem?_set_self (by simp;omega),⟨hnv,trivial⟩,?_,?_⟩
        ·simp only [A.ev,he];exact h2.2.1
        ·simp only [A.ev,he]
       ·rw [if_neg (by omega)] at he
        refine ⟨_,by rw [List.getElem?_set_ne hqj];exact g2,⟨hnv,trivial⟩,?_,?_⟩
        ·simp only [A.ev,he];exact g1
        ·simp only [A.ev,he]
      ·have hst:=run_storeCells_at P (m.rho id).1 (off+q) b.elem [.int r.1 (x'.ev m.env)] 0 us.toArray w hus (by simp;omega) (by simp [Value.oneCell'])
       have had:(m.at id (off+(i.ev m.env).toNat))=⟨(m.rho id).1,off+q,none⟩:=by simp [M.at,hz,hq]
       simp only [execOp,ho,h1d,Instr.storeAt,Instr.sureAddr,had]
       have hsz:¬ (a.eval y).cells.size≠1:=by rw [hv];simp
       simp only [storeVar,Sem.run_bind,Sem.run_pure,Result.andThen_ok,run_sizeOf hn]
       rw [if_neg hsz,hv,<- set_row hqn hen]
       simp only [Nat.add_zero] at hst
       simp [hst]
     ·split at hp
      ·cases hp
      ·rename_i h16 h1024
       cases hp
       refine ⟨id,_,b,_,rfl,rfl,box_some hb,?_,h.wr (off:=off) (vs:=((us.drop off).take n).set q (.int r.1 (x'.ev m.env))) (box_some hb) hc1 hus ?_⟩
       rotate_left
       ·obtain ⟨e1,e2⟩:=ints_all hsub
        obtain ⟨f1,f2,f3⟩:=arrA_ok (T:=T) (nn:=nn) hsub (by omega)
        obtain ⟨t1,t2⟩:=Told.append.1 hD.2
        have f4:=f3 m.env (fun _ _=>rfl) t1
        have f5:=(t2 0 _ _ rfl).1
        simp only [Nat.add_zero,D.ev,f4,hq,Int.toNat_natCast] at f5
        rw [e1,List.set_map_int]
        have hD1:=hD.1
        simp only [List.length_append,List.length_cons,List.length_nil] at hD1
        have:=elt_rels (m:=m) (nv:=Y.nv) (al:=Y.al) (k:=r.1) (n:=n) f5 (by
         rw [dec_enc]
         refine ⟨by rw [List.length_set,List.length_map,hc2];omega,fun z hz=>?_⟩
         rcases List.mem_or_eq_of_mem_set hz with hz | rfl
         ·obtain ⟨x,hx,rfl⟩:=List.mem_map.1 hz
          exact (e2 x hx).2
         ·exact h2.2.1) (by rw [dec_enc,List.length_set,List.length_map,hc2]) (by omega)
        rw [dec_enc] at this
        exact this
       ·have hst:=run_storeCells_at P (m.rho id).1 (off+q) b.elem [.int r.1 (x'.ev m.env)] 0 us.toArray w hus (by simp;omega) (by simp [Value.oneCell'])
        have had:(m.at id (off+(i.ev m.env).toNat))=⟨(m.rho id).1,off+q,none⟩:=by simp [M.at,hz,hq]
        simp only [execOp,ho,h1d,Instr.storeAt,Instr.sureAddr,had]
        have hsz:¬ (a.eval y).cells.size≠1:=by rw [hv];simp
        simp only [storeVar,Sem.run_bind,Sem.run_pure,Result.andThen_ok,run_sizeOf hn]
        rw [if_neg hsz,hv,<- set_row hqn hen]
        simp only [Nat.add_zero] at hst
        simp [hst]
    ·cases hp
   ·cases hp
  ·cases hp
 ·rename_i id i k v hx hy
  obtain ⟨h1a,h1c,h1d,h1e⟩:=h.cell hx
  split at hp
  ·rename_i r s hr hs
   split at hp
   ·rename_i hc
    simp only [Bool.and_eq_true,beq_iff_eq] at hc
    obtain ⟨⟨⟨hc1,hc2⟩,hc3⟩,hc4⟩:=hc
    have hk:=LKeq_ok hc2
    subst hk
    subst hc3
    split at hp
    ·rename_i ds yy htk
     cases hp
     obtain ⟨q1,q2,q5,q6,q3⟩:=h.row_ok hr
     obtain ⟨b,hb,hbr⟩:=row_box hr
     obtain ⟨vs,g1,g2,g3⟩:=V.rel_cells (h.v_ hy) hc4
     obtain ⟨k1,k3⟩:=takeK_ok (T:=T) htk m Y.nv vs g2
     obtain ⟨t1,t2⟩:=Told.append.1 hD.2
     have t3:=t2 0 _ _ rfl
     simp only [Nat.add_zero,D.ev] at t3
     obtain ⟨v1,v2⟩:=k3 m.env (fun _ _=>rfl) t1
     have hlt:nn+ds.length<Y.nv:=by have:=hD.1;simp only [List.length_append,List.length_cons,List.length_nil] at this;omega
     rw [q3.lenV] at h1d
     generalize hl:dec (r.x.ev m.env)=l at *
     generalize yy.ev m.env=z at *
     obtain ⟨q,hq⟩:=Int.eq_ofNat_of_zero_le h1d.1
     rw [hq] at h1d t3
     simp only [Int.toNat_natCast] at t3
     have hql:q<l.length:=by omega
     have q4:=q3.2.1
     rw [hc1] at q4
     simp only [if_true] at q4
     rcases q4.2 with ⟨hv,hn⟩ | ⟨g,cap,cur,hv,hbase,hg,hc1',hc2',hc3',hc4'⟩
     ·omega
     have hvl:vs.length=r.k.sz:=by rw [<- v1,vals_len]
     have hmul:q*r.k.sz+r.k.sz<=l.length*r.k.sz:=by
      rw [<- Nat.succ_mul];exact Nat.mul_le_mul_right _ hql
     have hmul2:l.length*r.k.sz<=cap*r.k.sz:=Nat.mul_le_mul_right _ hc1'
     have hst:=run_storeCells_at P g (q*r.k.sz) r.elem vs 0 cur w hg (by omega) g3
     refine ⟨id,.row (.var (nn+ds.length)),b,w.setRow g (cur.toList.take (q*r.k.sz)++vs++cur.toList.drop (q*r.k.sz+vs.length)).toArray,rfl,rfl,hb,?_,?_⟩
     ·have had:(slAt (m.sv id)).add (q*r.k.sz)=⟨g,q*r.k.sz,none⟩:=by rw [hv];exact addr0 _ _
      rw [hq] at h1e
      simp only [Int.toNat_natCast] at h1e
      simp only [execOp,ho,h1e,Instr.storeAt,Instr.sureAddr,had]
      have hsz:¬ (a.eval y).cells.size≠r.k.sz:=by rw [g1];simp [hvl]
      simp only [storeVar,Sem.run_bind,Sem.run_pure,Result.andThen_ok,run_sizeOf hs]
      rw [if_neg hsz,g1]
      simp only [Nat.add_zero] at hst
      simp [hst]
     ·have hdec:dec (A.ev m.env (.var (nn+ds.length)))=l.set q z:=by simp only [A.ev,t3.1,dec_enc]
      refine h.wrRow hb hbr hc1 (g:=g) (by rw [hv];rfl) ⟨hlt,trivial⟩ (by rw [hdec,hl,List.length_set]) ?_
      rw [hdec]
      refine ⟨⟨by rw [List.length_set];exact q3.1.1,fun x hx=>?_⟩,?_,q3.2.2⟩
      ·rcases List.mem_or_eq_of_mem_set hx with h1 | h1
       ·exact q3.1.2 x h1
       ·rw [h1];exact v2
      ·simp only [hc1,if_true]
       refine ⟨flat_len _ _,.inr ⟨g,cap,_,by rw [List.length_set];exact hv,hbase,setRow_heap w _ _ _ _ _ hg,by rw [List.length_set];exact hc1',hc2',?_,?_⟩⟩
       ·simp only [List.size_toArray,List.length_append,List.length_take,List.length_drop,Array.length_toList];omega
       ·rw [List.length_set,List.toList_toArray,flat_set _ _ _ _ hql,v1,<- hc4',<- hvl]
        exact take_mid (by rw [hvl];omega)
    ·cases hp
   ·cases hp
  ·cases hp
 ·cases hp
end
end Go.Sx
