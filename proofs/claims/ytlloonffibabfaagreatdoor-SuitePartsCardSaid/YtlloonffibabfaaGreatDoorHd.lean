/- Part Hd of the proof. -/
import Derived.Test.YtlloonffibabfaaGreatDoorHc
import Derived.Test.YtlloonffibabfaaGreatDoorHb
import Derived.Deep.Slices
set_option linter.unusedVariables false
set_option linter.unusedSimpArgs false
namespace Go.Sx
open Go Go.RowKit
section
variable {P:Program}{T:List K}{w0:World}{m:M}{Y:St}{a:Act}{w:World}{o:Oper}{nn nid:Nat}{p:Plan}
theorem Qan(h:Rep w0 m Y a w){lo:Option Operand}{l:Option Nat}(hl:Qaz Y lo=some l) :
  (∀v,lo.map a.eval=some v->∃n k,l=some n/\v=.int k (n:Int))/\(lo.map a.eval=none->l=none):=by
 unfold Qaz at hl;cases lo with
 |none=>simp at hl;subst hl;simp
 |some x =>
  simp only at hl;cases hi:idx Y x with
  |none=>simp[hi]at hl
  |some n =>
   simp[hi]at hl;subst hl;obtain⟨k,hk⟩:=Qdy h hi;refine⟨fun v hv=>?_,by simp⟩;simp at hv;exact⟨n,k,rfl,by rw[<- hv,hk]⟩
theorem Qr2(m:M)(id off l s:Nat)(b:Prop)[Decidable b]:(if b then m.at id off else(m.at id off).add (l*s))=m.at id (if b then off else off+l*s):=by
 split
 ·rfl
 ·rw[Bf]
theorem Qcc(h:Rep w0 m Y a w){o:Option Operand}{l:Option A}(hl:Jf Y o=some l) :
  (∀v,o.map a.eval=some v->∃y k,l=some y/\y.wf Y.nv m.env/\v=.int k (y.ev m.env))/\(o.map a.eval=none->l=none):=by
 unfold Jf at hl;cases o with
 |none=>simp at hl;subst hl;simp
 |some x =>
  simp only at hl;split at hl
  ·rename_i k y hc;cases hl;have h1:=h.cell hc;refine⟨fun v hv=>?_,by simp⟩;simp at hv;exact⟨y,k,rfl,h1.1,by rw[<- hv,h1.2.2]⟩
  ·cases hl
theorem Wg{b:Prop}[Decidable b](h:Xo (decide b)≠0):b:=by
 by_cases hc:b
 ·exact hc
 ·simp[hc,Xo]at h
theorem Qnh{t e:TypeId}{x:Operand}{lo hi:Option Operand}(h:Rep w0 m Y a w)(ho:o.op=.slice t x lo hi none)(hu:P.underlying t=some (.slice e)){id:Nat}{r:Row}{s:Nat}(hr:Y.row id=some r)
  (hs:szOf P e=some s) (hsz:s=r.k.sz) {l h':Option A} (hl:Jf Y lo=some l) (hh:Jf Y hi=some h') {d:A} {n:Nat} (hd:hi=none->d.wf Y.nv m.env/\d.ev m.env=(n:Int))
  {b:Option Addr} {n0 cap:Nat} (hv:a.eval x=.slice b n cap) (hsv:m.sv id=.slice b n0 cap) (hp:Ut nn id r (l.getD (.lit 0)) (h'.getD d)=.ok p)
  (hdf:Zl T m.env Y.nv nn p.defs) (hz:∀x∈p.nz,x.ev m.env≠0):Zt P m Y a w o p.val:=by
 obtain⟨q1,q2,q5,q6,q3⟩:=h.Xav hr;unfold Ut at hp;cases hp;have hlv:=q3.Xbh;rw[hsv]at hlv;have hlv:n0=(dec (A.ev m.env r.x)).length:=hlv;have hcap:n0<=cap:=by
  rcases q3.form with⟨f1,f2⟩|⟨ad,c,f1,f2⟩
  ·rw[f2]at hlv;simp at hlv;omega
  ·rw[hsv]at f1;cases f1;exact f2
 have hbig:=q3.1.1;obtain⟨bl1,bl2⟩:=Qcc h hl;obtain⟨bh1,bh2⟩:=Qcc h hh;generalize hlo:l.getD (.lit 0)=loA at *
 generalize hhi:h'.getD d=hiA at *
 have d0:m.env nn=(n0:Int):=by
  have:=(hdf.2 0 _ _ rfl).1;simpa[D.ev,q6,<- hlv]using this
 have d1:m.env (nn+1)=Xo (decide (0<=loA.ev m.env)):=(hdf.2 1 _ _ rfl).1;have d2:m.env (nn+2)=Xo (decide (loA.ev m.env<=hiA.ev m.env)):=(hdf.2 2 _ _ rfl).1;have d3:m.env (nn+3)=Xo (decide (hiA.ev m.env<=m.env nn)):=(hdf.2 3 _ _ rfl).1;have z1:0<=loA.ev m.env:=Wg (by rw[<- d1];exact hz (.v (nn+1)) (by simp));have z2:loA.ev m.env<=hiA.ev m.env:=Wg (by rw[<- d2];exact hz (.v (nn+2)) (by simp));have z3:hiA.ev m.env<=m.env nn:=Wg (by rw[<- d3];exact hz (.v (nn+3)) (by simp));rw[d0]at z3;obtain⟨x0,hx0⟩:=Oz z1;obtain⟨x1,hx1⟩:=Oz (Int.le_trans z1 z2);rw[hx0,hx1]at z2;rw[hx1]at z3;have wlo:loA.wf Y.nv m.env/\(lo=none->l=none/\x0=0):=by
  cases lo with
  |none =>
   have:=bl2 rfl;subst this;simp at hlo;subst hlo;exact⟨⟨trivial,trivial⟩,fun _=>⟨rfl,by simp[A.ev]at hx0;omega⟩⟩
  |some z =>
   obtain⟨y,k,e1,e2,_⟩:=bl1 _ rfl;subst e1;simp at hlo;subst hlo;exact⟨e2,fun h=>by cases h⟩
 have whi:hiA.wf Y.nv m.env/\(hi=none->h'=none/\x1=n):=by
  cases hi with
  |none =>
   have:=bh2 rfl;subst this;simp at hhi;subst hhi;obtain⟨e1,e2⟩:=hd rfl;exact⟨e1,fun _=>⟨rfl,by rw[e2]at hx1;omega⟩⟩
  |some z =>
   obtain⟨y,k,e1,e2,_⟩:=bh1 _ rfl;subst e1;simp at hhi;subst hhi;exact⟨e2,fun h=>by cases h⟩
 have hsb:=Yr (P:=P) (w:=w) (b:=true) (len:=n) (cap:=cap) (lo:=lo.map a.eval) (hi:=hi.map a.eval) (l:=lo.map fun _=>x0) (h:=hi.map fun _=>x1)
  (fun v hv=>by
   cases lo with
   |none=>cases hv
   |some z =>
    obtain⟨y,k,e1,e2,e3⟩:=bl1 v hv;subst e1;simp at hlo;subst hlo;exact⟨x0,k,rfl,by rw[e3,hx0]⟩)
  (fun e=>by cases lo with|none=>rfl|some z=>cases e)
  (fun v hv=>by
   cases hi with
   |none=>cases hv
   |some z =>
    obtain⟨y,k,e1,e2,e3⟩:=bh1 v hv;subst e1;simp at hhi;subst hhi;exact⟨x1,k,rfl,by rw[e3,hx1]⟩)
  (fun e=>by cases hi with|none=>rfl|some z=>cases e)
  (by cases hi with
   |none=>have:=(whi.2 rfl).2;simp;omega
   |some z=>simp;omega)
  (by
   have e1:(lo.map fun _=>x0).getD 0=x0:=by cases lo with|none=>exact(wlo.2 rfl).2.symm|some z=>rfl
   have e2:(hi.map fun _=>x1).getD n=x1:=by cases hi with|none=>exact(whi.2 rfl).2.symm|some z=>rfl
   rw[e1,e2];omega)
 have e1:(lo.map fun _=>x0).getD 0=x0:=by cases lo with|none=>exact(wlo.2 rfl).2.symm|some z=>rfl
 have e2:(hi.map fun _=>x1).getD n=x1:=by cases hi with|none=>exact(whi.2 rfl).2.symm|some z=>rfl
 rw[e1,e2]at hsb;refine⟨Up r.k.sz (m.sv id) x0 x1,?_,q1,wlo.1,whi.1,⟨z1,by rw[hx0,hx1];exact z2,by rw[hsv,hx1];exact z3,by omega⟩,.inl (by rw[hx0,hx1];rfl),Qii (by rw[hsv];rfl)⟩;rw[hsv,<- hsz];simp only[execOp,ho,hv,Instr.sliceAt,Instr.slice,Up];simp[run_underlying hu,hsb,run_sizeOf hs]
theorem Zd6{t e:TypeId}{x:Operand}{lo hi:Option Operand}(h:Rep w0 m Y a w)(ho:o.op=.slice t x lo hi none)(hu:P.underlying t=some (.slice e)){id:Nat}{r:Row}{s:Nat}(hr:Y.row id=some r)
  (hs:szOf P e=some s) (hsz:s=r.k.sz) {l h':Option A} (hl:Jf Y lo=some l) (hh:Jf Y hi=some h') {lo' hi':A} (hx:C.rel m Y.nv Y.al (.slv id lo' hi' r.k) (a.eval x))
  (hp:Qa4 nn id r lo' hi' (l.getD (.lit 0)) h'=.ok p) (hdf:Zl T m.env Y.nv nn p.defs) (hz:∀x∈p.nz,x.ev m.env≠0):Zt P m Y a w o p.val:=by
 obtain⟨c1,c2,c3,c4,c5,c6⟩:=hx;obtain⟨q1,q2,q5,q6,q3⟩:=h.Xav hr;unfold Qa4 at hp;cases hp;have hlv:=q3.Xbh;obtain⟨b,cap,hsv⟩:=q3.len;rw[q3.Xbh]at c4;have hbig:=q3.1.1;generalize hn0:(dec (A.ev m.env r.x)).length=n0 at *
 have hcap:n0<=cap/\(b=none->cap=0):=by
  rcases q3.form with⟨f1,f2⟩|⟨ad,c,f1,f2⟩
  ·rw[f1]at hsv;rw[f2]at hn0;cases hsv;exact⟨by simp at hn0;omega,fun _=>rfl⟩
  ·rw[hn0]at f1 f2;rw[hsv]at f1;cases f1;exact⟨f2,fun e=>by cases e⟩
 obtain⟨bl1,bl2⟩:=Qcc h hl;obtain⟨bh1,bh2⟩:=Qcc h hh;have hlen:nn+8<=Y.nv:=by have:=hdf.1;simp only[Ov,O5]at this;omega
 generalize hlo:l.getD (.lit 0)=loA at *
 generalize hhi:h'.getD (.v (nn+2))=hiA at *
 have d0:m.env nn=(n0:Int):=by
  have:=(hdf.2 0 _ _ rfl).1;simpa[D.ev,q6,hn0]using this
 have d1:m.env (nn+1)=wr .i64 (m.env nn-lo'.ev m.env):=(hdf.2 1 _ _ rfl).1;have d2:m.env (nn+2)=wr .i64 (hi'.ev m.env-lo'.ev m.env):=(hdf.2 2 _ _ rfl).1;have d3:m.env (nn+3)=Xo (decide (0<=loA.ev m.env)):=(hdf.2 3 _ _ rfl).1;have d4:m.env (nn+4)=Xo (decide (loA.ev m.env<=hiA.ev m.env)):=(hdf.2 4 _ _ rfl).1;have d5:m.env (nn+5)=Xo (decide (hiA.ev m.env<=m.env (nn+1))):=(hdf.2 5 _ _ rfl).1;have d6:m.env (nn+6)=wr .i64 (lo'.ev m.env+loA.ev m.env):=(hdf.2 6 _ _ rfl).1;have d7:m.env (nn+7)=wr .i64 (lo'.ev m.env+hiA.ev m.env):=(hdf.2 7 _ _ rfl).1;have z1:0<=loA.ev m.env:=Wg (by rw[<- d3];exact hz (.v (nn+3)) (by simp));have z2:loA.ev m.env<=hiA.ev m.env:=Wg (by rw[<- d4];exact hz (.v (nn+4)) (by simp));have z3:hiA.ev m.env<=m.env (nn+1):=Wg (by rw[<- d5];exact hz (.v (nn+5)) (by simp));rw[d0,Qj7 (by simp only[has,Sx.lo,Sx.hi];omega)]at d1;rw[Qj7 (by simp only[has,Sx.lo,Sx.hi];omega)]at d2;rw[d1]at z3;rw[Qj7 (by simp only[has,Sx.lo,Sx.hi];omega)]at d6 d7;obtain⟨x0,hx0⟩:=Oz z1;obtain⟨x1,hx1⟩:=Oz (Int.le_trans z1 z2);obtain⟨y0,hy0⟩:=Oz c4.1;obtain⟨y1,hy1⟩:=Oz (Int.le_trans c4.1 c4.2.1);rw[hx0,hx1]at z2;rw[hx1,hy0]at z3;rw[hy0,hx0]at d6;rw[hy0,hx1]at d7;rw[hy0,hy1]at d2 c4;rw[hsv,hy0,hy1]at c5;simp only[Mi]at c5;obtain⟨⟨b',hv⟩,hview⟩:=Zfb (x0:=x0) (x1:=x1) hcap.2 hcap.1 (by omega) (by omega) c5 (by omega) (by omega);have wlo:loA.wf Y.nv m.env/\(lo=none->l=none/\x0=0):=by
  cases lo with
  |none =>
   have:=bl2 rfl;subst this;simp at hlo;subst hlo;exact⟨⟨trivial,trivial⟩,fun _=>⟨rfl,by simp[A.ev]at hx0;omega⟩⟩
  |some z =>
   obtain⟨y,k,e1,e2,_⟩:=bl1 _ rfl;subst e1;simp at hlo;subst hlo;exact⟨e2,fun h=>by cases h⟩
 have whi:hi=none->h'=none/\x1=y1-y0:=by
  cases hi with
  |none =>
   have:=bh2 rfl;subst this;simp at hhi;subst hhi;exact fun _=>⟨rfl,by simp only[A.ev]at hx1;omega⟩
  |some z=>exact fun h=>by cases h
 have hsb:=Yr (P:=P) (w:=w) (b:=true) (len:=y1-y0) (cap:=cap-y0) (lo:=lo.map a.eval) (hi:=hi.map a.eval) (l:=lo.map fun _=>x0) (h:=hi.map fun _=>x1)
  (fun v hv=>by
   cases lo with
   |none=>cases hv
   |some z =>
    obtain⟨y,k,e1,e2,e3⟩:=bl1 v hv;subst e1;simp at hlo;subst hlo;exact⟨x0,k,rfl,by rw[e3,hx0]⟩)
  (fun e=>by cases lo with|none=>rfl|some z=>cases e)
  (fun v hv=>by
   cases hi with
   |none=>cases hv
   |some z =>
    obtain⟨y,k,e1,e2,e3⟩:=bh1 v hv;subst e1;simp at hhi;subst hhi;exact⟨x1,k,rfl,by rw[e3,hx1]⟩)
  (fun e=>by cases hi with|none=>rfl|some z=>cases e)
  (by cases hi with
   |none=>have:=(whi rfl).2;simp;omega
   |some z=>simp;omega)
  (by
   have e1:(lo.map fun _=>x0).getD 0=x0:=by cases lo with|none=>exact(wlo.2 rfl).2.symm|some z=>rfl
   have e2:(hi.map fun _=>x1).getD (y1-y0)=x1:=by cases hi with|none=>exact(whi rfl).2.symm|some z=>rfl
   rw[e1,e2];omega)
 have e1:(lo.map fun _=>x0).getD 0=x0:=by cases lo with|none=>exact(wlo.2 rfl).2.symm|some z=>rfl
 have e2:(hi.map fun _=>x1).getD (y1-y0)=x1:=by cases hi with|none=>exact(whi rfl).2.symm|some z=>rfl
 rw[e1,e2]at hsb;have whi2:((h'.map fun _=>A.v (nn+7)).getD hi').wf Y.nv m.env/\((h'.map fun _=>A.v (nn+7)).getD hi').ev m.env=((y0+x1:Nat):Int):=by
  cases h' with
  |none =>
   simp at hhi;subst hhi;refine⟨c3,?_⟩;show hi'.ev m.env=_;simp only[A.ev]at hx1;omega
  |some y=>exact⟨⟨by show nn+7<Y.nv;omega,trivial⟩,by show m.env (nn+7)=_;omega⟩
 have wlo2:m.env (nn+6)=((y0+x0:Nat):Int):=by omega
 refine⟨Up r.k.sz (a.eval x) x0 x1,?_,q1,⟨by show nn+6<Y.nv;omega,trivial⟩,whi2.1,⟨by show 0<=m.env (nn+6);omega,by rw[whi2.2];show m.env (nn+6)<=_;omega,by rw[whi2.2,hlv];omega,by rw[whi2.2];omega⟩,?_,Qii c6⟩
 ·rw[<- hsz];simp only[execOp,ho,hv,Instr.sliceAt,Instr.slice,Up];simp[run_underlying hu,hsb,run_sizeOf hs]
 ·rw[whi2.2];show W9 _ _ (m.env (nn+6)).toNat _ _;rw[wlo2,hsv];exact hview
theorem Qw1{t:TypeId}{x:Operand}{lo hi mx:Option Operand}(h:Rep w0 m Y a w)(ho:o.op=.slice t x lo hi mx)(hp:Qy P T Y nn nid o.op=.ok p)(hdf:Zl T m.env Y.nv nn p.defs)(hz:∀x∈p.nz,x.ev m.env≠0):Zt P m Y a w o p.val:=by
 rw[ho]at hp;simp only[Qy]at hp;split at hp
 ·cases hp
 ·rename_i hmx;have hmx':mx=none:=by simpa using hmx
  subst hmx';split at hp
  ·rename_i n e id off hu hx;have h1:=h.cell hx;split at hp
   ·rename_i l hh s hl hh' hs;obtain⟨bl1,bl2⟩:=Qan h hl;obtain⟨bh1,bh2⟩:=Qan h hh';split at hp
    ·rename_i hb;cases hp;simp only[Oo,decide_eq_true_eq]at hb;have hsb:=Yr (P:=P) (w:=w) (b:=false) (len:=n) (cap:=n) bl1 bl2 bh1 bh2 hb.1 hb.2;refine⟨.slice (some (m.at id (if n=l.getD 0 then off else off+l.getD 0*s))) (hh.getD n-l.getD 0) (n-l.getD 0),?_,h1.1,rfl⟩;simp only[execOp,ho,h1.2,Instr.sliceAt];simp[run_underlying hu,Instr.sureAddr,hsb,run_sizeOf hs,Qr2]
    ·cases hp
   ·split at hp
    ·rename_i y s hy hs _;cases hp;obtain⟨bh1,bh2⟩:=Qcc h hy;have d1:m.env nn=Xo (decide ((0:Int)<=y.ev m.env)):=(hdf.2 0 _ _ rfl).1;have d2:m.env (nn+1)=Xo (decide (y.ev m.env<=(n:Int))):=(hdf.2 1 _ _ rfl).1;have z1:(0:Int)<=y.ev m.env:=Wg (by rw[<- d1];exact hz (.v nn) (by simp));have z2:y.ev m.env<=(n:Int):=Wg (by rw[<- d2];exact hz (.v (nn+1)) (by simp));cases hi with
     |none=>cases bh2 rfl
     |some hx' =>
      obtain⟨y',k,e1,e2,e3⟩:=bh1 _ rfl;cases e1;obtain⟨x1,hx1⟩:=Oz z1
      have hsb:=Yr (P:=P) (w:=w) (b:=false) (len:=n) (cap:=n) (lo:=none) (hi:=some (a.eval hx')) (l:=none) (h:=some x1) (fun v hv=>by cases hv) (fun _=>rfl)
       (fun v hv=>by cases hv;exact⟨x1,k,rfl,by rw[e3,hx1]⟩) (fun e=>by cases e) (by simp;omega) (by simp)
      refine⟨.slice (some (m.at id off)) x1 n,?_,h1.1,e2,⟨z1,z2⟩,by rw[hx1];rfl⟩;simp only[execOp,ho,h1.2,Instr.sliceAt];simp[run_underlying hu,Instr.sureAddr,hsb,run_sizeOf hs,Bf]
    ·cases hp
  ·rename_i e id off len cap hu hx;have h1:=h.cell hx;split at hp
   ·rename_i l hh s hl hh' hs;obtain⟨bl1,bl2⟩:=Qan h hl;obtain⟨bh1,bh2⟩:=Qan h hh';split at hp
    ·rename_i hb;cases hp;simp only[Oo,decide_eq_true_eq]at hb;have hsb:=Yr (P:=P) (w:=w) (b:=true) (len:=len) (cap:=cap) bl1 bl2 bh1 bh2 hb.1 hb.2;refine⟨.slice (some (m.at id (if cap=l.getD 0 then off else off+l.getD 0*s))) (hh.getD len-l.getD 0) (cap-l.getD 0),?_,h1.1,rfl⟩;simp only[execOp,ho,h1.2,Instr.sliceAt,Instr.slice];simp[run_underlying hu,hsb,run_sizeOf hs];rw[<- Qr2];split <;> rfl
    ·cases hp
   ·cases hp
  ·rename_i e id hu hx;obtain⟨c1,c2,c3⟩:=h.cell hx;split at hp
   ·rename_i r l hh s hr hl hh' hs;split at hp
    ·rename_i hsz;have hsz:s=r.k.sz:=by simpa using hsz
     obtain⟨q1,q2,q5,q6,q3⟩:=h.Xav hr;obtain⟨b,cap,hsv⟩:=q3.len;refine Qnh (d:=.v nn) h ho hu hr hs hsz hl hh' (fun _=>?_) (c2.trans hsv) hsv hp hdf hz;have e0:p.defs[0]?=some (.int .i64,.llen r.x0):=by unfold Ut at hp;cases hp;rfl
     refine⟨⟨?_,trivial⟩,?_⟩
     ·have:=hdf.1;have hlp:=(Ow.1 e0).1;show nn<Y.nv;omega
     ·have:=(hdf.2 0 _ _ e0).1;rw[Mk]at this;show m.env nn=_;rw[this];simp only[D.ev,q6]
    ·cases hp
   ·cases hp
  ·rename_i e id lo' hi' k hu hx;obtain⟨b1,b2,b3,b4,b5,b6⟩:=h.cell hx;split at hp
   ·rename_i r l hh s hr hl hh' hs;split at hp
    ·rename_i hc;simp only[Oo,beq_iff_eq]at hc;obtain⟨⟨hc1,hc2⟩,hc3⟩:=hc;have hk:=Zx hc2;subst hk;have hz0:=Qdd hc3;subst hz0;obtain⟨q1,q2,q5,q6,q3⟩:=h.Xav hr;obtain⟨b,cap,hsv⟩:=q3.len;refine Qnh (d:=hi') (n:=(hi'.ev m.env).toNat) h ho hu hr hs hc1 hl hh' (fun _=>⟨b3,?_⟩) (by rw[W9.zero b5,hsv];exact We ..) hsv hp hdf hz;have:=b4.2.1;simp only[A.ev]at this;omega
    ·split at hp
     ·rename_i hc;simp only[Oo,beq_iff_eq]at hc;obtain⟨hc1,hc2⟩:=hc;have hk:=Zx hc2;subst hk;exact Zd6 h ho hu hr hs hc1 hl hh' ⟨b1,b2,b3,b4,b5,b6⟩ hp hdf hz
     ·cases hp
   ·cases hp
  ·cases hp
theorem Qwg{t:TypeId}{ps:Array (Nat×Operand)}(h:Rep w0 m Y a w)(ho:o.op=.build t ps)(hp:Qy P T Y nn nid o.op=.ok p):Zt P m Y a w o p.val:=by
 rw[ho]at hp;simp only[Qy]at hp;have Jd:∀ {cs:Array Value},P.built t (ps.map fun(i,x)=>(i,a.eval x)).toList=some cs->(execOp a.eval o).run P w=.ok (.value (.agg cs)) w:=by
  intro cs hc;simp only[execOp,ho];simp[run_build w t _ cs hc]
 split at hp
 ·rename_i i fs l hi hu hl;split at hp
  ·rename_i z places hz hpl;split at hp
   ·rename_i zv hzv;split at hp
    ·rename_i cs hcs;split at hp
     ·rename_i hsol;cases hp;obtain⟨zs,hz1,hz2,_⟩:=V.Xa0 (m:=m) (nv:=Y.nv) (al:=Y.al) (Jl hzv).1 (Jl (m:=m) (nv:=Y.nv) (al:=Y.al) hzv).2;obtain⟨vs,hv1,hv2⟩:=Qov (m:=m) _ l hsol (Qje h _ _ hl hsol) _ _ _ hz2 hcs;refine⟨.agg vs.toArray,Jd ?_,vs,rfl,hv2⟩;have e:(fun j:Nat=>places[j]?)=fun j:Nat=>places.toArray[j]?:=by funext j;simp
      rw[e]at hv1;simp only[Program.built,hi,hu,hz,hpl,hz1];simpa using hv1
     ·cases hp
    ·cases hp
   ·cases hp
  ·cases hp
 ·rename_i i n e l hi hu hl;split at hp
  ·rename_i z s hz hs;split at hp
   ·rename_i zv hzv;split at hp
    ·rename_i cs hcs;split at hp
     ·rename_i hsol;cases hp;obtain⟨zs,hz1,hz2,_⟩:=V.Xa0 (m:=m) (nv:=Y.nv) (al:=Y.al) (Jl hzv).1 (Jl (m:=m) (nv:=Y.nv) (al:=Y.al) hzv).2;obtain⟨vs,hv1,hv2⟩:=Qov (m:=m) _ l hsol (Qje h _ _ hl hsol) _ _ _ hz2 hcs;refine⟨.agg vs.toArray,Jd ?_,vs,rfl,hv2⟩;unfold szOf at hs;cases he:P.info? e with
      |none=>simp[he]at hs
      |some ie =>
       simp[he]at hs;subst hs;simp only[Program.built,hi,hu,hz,he,hz1];simpa using hv1
     ·cases hp
    ·cases hp
   ·cases hp
  ·cases hp
 ·cases hp
theorem Qe2(h:Rep w0 m Y a w):∀(xs:List Operand) (l:List V),Zh Y.v xs=some l->Zi m Y.nv Y.al l (xs.map a.eval):=by
 intro xs
 induction xs with
 |nil=>intro l hl;simp[Zh]at hl;subst hl;trivial
 |cons x xs ih =>
  intro l hl;unfold Zh at hl;split at hl
  ·cases hl
  ·rename_i y hy;split at hl
   ·cases hl
   ·rename_i ys hys;cases hl;exact⟨h.v_ hy,ih ys hys⟩
def Qzl(P:Program)(m:M)(Y:St)(a:Act)(w:World)(o:Oper)(e:TypeId)(cs:List C)(f:Addr->Value):Prop :=
 ∃vs:List Value,(execOp a.eval o).run P w=.ok (.value (f ⟨w.heap.size,0,none⟩)) (w.alloc (.cells vs.toArray e))/\Rels m Y.nv Y.al cs vs
theorem Zdu{e:TypeId}(ho:o.op=.alloc e)(hp:Qy P T Y nn nid o.op=.ok p) :
  ∃cs,p={val:=.vl (.one (.ptr nid 0)),eff:=.new {cells:=cs,elem:=e,own:=true } }/\Qzl P m Y a w o e cs (fun ad=>.pointer (some ad)):=by
 rw[ho]at hp;simp only[Qy]at hp;split at hp
 ·rename_i i hi;split at hp
  ·rename_i z hz;split at hp
   ·rename_i v hv;cases hp;obtain⟨vs,h1,h2,_⟩:=V.Xa0 (m:=m) (nv:=Y.nv) (al:=Y.al) (Jl hv).1 (Jl (m:=m) (nv:=Y.nv) (al:=Y.al) hv).2;refine⟨_,rfl,vs,?_,h2⟩;simp only[execOp,ho,Instr.alloc];simp[Qcy hi hz,newVar,newRow,h1]
   ·cases hp
  ·cases hp
 ·cases hp
theorem Znj{e:TypeId}{x:Operand}(h:Rep w0 m Y a w)(ho:o.op=.box e x)(hp:Qy P T Y nn nid o.op=.ok p) :
  ∃cs,p={val:=.vl (.one (.ptr nid 0)),eff:=.new {cells:=cs,elem:=e,own:=true } }/\Qzl P m Y a w o e cs (fun ad=>.pointer (some ad)):=by
 rw[ho]at hp;simp only[Qy]at hp;split at hp
 ·rename_i v hv;split at hp
  ·rename_i hs;cases hp;obtain⟨vs,h1,h2,_⟩:=V.Xa0 (h.v_ hv) hs;refine⟨_,rfl,vs,?_,h2⟩;simp only[execOp,ho,Instr.box];simp[newVar,newRow,h1]
  ·cases hp
 ·cases hp
theorem Qnr(zs:List Value):∀n:Nat,(List.range (n*zs.length)).map (fun i=>zs.getD (i%zs.length) default)=(List.replicate n zs).flatten:=by
 intro n
 induction n with
 |zero=>simp
 |succ n ih =>
  rw[K8,Nat.one_mul,List.range_add,Kq,ih,List.replicate_succ',List.flatten_append];congr 1;simp only[List.flatten_cons,List.flatten_nil,Oaf,List.map_map];apply Oai;intro j;simp only[M2];by_cases hj:j<zs.length
  ·simp[hj,He hj]
  ·simp[hj]
theorem Qpx{nv:Nat}{al:Nat->Bool}{cs:List C}{vs:List Value}(h:Rels m nv al cs vs):∀n,Rels m nv al (List.replicate n cs).flatten (List.replicate n vs).flatten:=by
 intro n
 induction n with
 |zero=>simp[Rels]
 |succ n ih=>rw[List.replicate_succ,List.replicate_succ,List.flatten_cons,List.flatten_cons];exact h.append ih
theorem Qk8{t:TypeId}{len:Nat}{ps:Array (Nat×Operand)}(h:Rep w0 m Y a w)(ho:o.op=.buildSlice t len ps)(he:Qfh P nid t len ps=none)(hp:Qy P T Y nn nid o.op=.ok p) :
  ∃cs e,p={val:=.vl (.one (.slice nid 0 len len)),eff:=.new {cells:=cs,elem:=e,own:=true } }/\Qzl P m Y a w o e cs (fun ad=>.slice (some ad) len len):=by
 rw[ho]at hp;simp only[Qy,he]at hp;split at hp
 ·rename_i e l hu hl;split at hp
  ·rename_i i hi;split at hp
   ·rename_i z hz;split at hp
    ·rename_i zv hzv;split at hp
     ·rename_i hc;simp only[Oo,decide_eq_true_eq,beq_iff_eq]at hc;obtain⟨⟨hc1,hc2⟩,hc3⟩:=hc;split at hp
      ·rename_i cs hcs;split at hp
       ·rename_i hsol;cases hp;obtain⟨zs,hz1,hz2,_⟩:=V.Xa0 (m:=m) (nv:=Y.nv) (al:=Y.al) (Jl hzv).1 (Jl (m:=m) (nv:=Y.nv) (al:=Y.al) hzv).2;have hzl:zs.length=i.size:=by rw[<- Rels.length hz2];exact hc1
        obtain⟨vs,hv1,hv2⟩:=Qov (m:=m) _ l hsol (Qje h _ _ hl hsol) _ _ _ (Qpx hz2 len) hcs;refine⟨_,_,rfl,vs,?_,hv2⟩;have hsz:szOf P e=some i.size:=by simp[szOf,hi]
        have hrow:(Array.map (fun x=>zs[x%zs.length]?.getD default) (Array.range (len*i.size)))=((List.replicate len zs).flatten).toArray:=by
         apply Array.ext';rw[<- hzl,<- Qnr zs len];simp
        have hv1':Instr.fill (fun j=>some (j*i.size,i.size)) ((List.replicate len zs).flatten).toArray (List.map (fun x=>(x.fst,a.eval x.snd)) ps.toList)=some vs.toArray:=hv1;simp only[execOp,ho,Instr.buildSlice];have hne:len*i.size=0∨¬len*i.size=0:=Decidable.em _;simp only[Sem.run_bind,run_underlying hu,Result.andThen_ok,run_sizeOf hsz];rw[if_neg (by omega)];rcases hne with h0|h0
        ·have:len=0:=by rcases Nat.mul_eq_zero.1 h0 with h|h <;> omega
         subst this;have he:Array.map (fun(_:Nat)=>(default:Value)) (Array.range 0)=#[]:=Array.ext' (by simp);simp at hv1';simp[he,hv1',newRow]
        ·simp[h0,Qcy hi hz,hz1];rw[hrow];simp[hv1',newRow]
       ·cases hp
      ·cases hp
     ·cases hp
    ·cases hp
   ·cases hp
  ·cases hp
 ·cases hp
theorem Qnz(k:IntKind)(i x:A):∀(as:List A) (j0 j:Nat),(Qcz k i x as j0)[j]?=as[j]?.map fun y=>(.int k,.put i (j0+j) x y)
 |[],j0,j=>by simp[Qcz]
 |y::as,j0,j=>by
  cases j with
  |zero=>simp[Qcz]
  |succ j=>simp only[Qcz,O3,Qnz k i x as (j0+1) j];congr 1;funext z;rw[show j0+1+j=j0+(j+1) by omega]
theorem Qmb(k:IntKind)(i x:A):∀(as:List A) (j0:Nat),(Qcz k i x as j0).length=as.length
 |[],_=>rfl
 |_::as,j0=>by simp[Qcz,Qmb k i x as (j0+1)]
theorem Qmn(k:IntKind):∀(n nn j:Nat) (c:C),(Qg5 k nn n)[j]?=some c->j<n/\c=.int k (.v (nn+j))
 |0,nn,j,c,h=>by simp[Qg5]at h
 |n+1,nn,j,c,h=>by
  cases j with
  |zero=>simp[Qg5]at h;exact⟨by omega,by rw[<- h];rfl⟩
  |succ j =>
   obtain⟨h1,h2⟩:=Qmn k n (nn+1) j c (by simpa[Qg5]using h);exact⟨by omega,by rw[h2,show nn+1+j=nn+(j+1) by omega]⟩
theorem Qns(k:IntKind):∀(n nn:Nat),(Qg5 k nn n).length=n
 |0,_=>rfl
 |n+1,nn=>by simp[Qg5,Qns k n (nn+1)]
theorem Qzf{us:List Value}{off n i:Nat}{v:Value}(hi:i<n)(hl:off+n<=us.length) :
  us.take (off+i)++[v]++us.drop (off+i+1)=us.take off++((us.drop off).take n).set i v++us.drop (off+(((us.drop off).take n).set i v).length):=by
 have hn:(((us.drop off).take n).set i v).length=n:=by simp;omega
 rw[hn];apply Oai;intro j;simp only[M8,List.getElem?_append,O6,Ku,Hr,Md,List.getElem?_set,Mp,List.length_singleton];have e1:min (off+i) us.length=off+i:=by omega
 have e2:min off us.length=off:=by omega
 have e3:min n (us.length-off)=n:=by omega
 rw[e1,e2,e3];by_cases h1:j<off
 ·simp[h1,show j<off+i by omega]
 ·by_cases h2:j<off+i
  ·simp only[h1,h2,if_true,if_false,show j-off<n by omega,show ¬i=j-off by omega];congr 1;omega
  ·by_cases h3:j=off+i
   ·subst h3;simp[show i<n by omega,show ¬off+i<off by omega]
   ·have h4:¬j-(off+i)<1:=by omega
    simp only[h1,h2,h4,if_false];by_cases h5:j-off<n
    ·simp only[h5,if_true,show ¬i=j-off by omega,if_false];congr 1;omega
    ·simp only[h5,if_false];congr 1;omega
end
def D.ok(n:Nat):D->Prop
 |.bin _ _ a b=>a.ok n/\b.ok n
 |.cmp _ a b=>a.ok n/\b.ok n
 |.conv _ a=>a.ok n
 |.not a=>a.ok n
 |.app _ _ as=>∀a∈as,a.ok n
 |.join as=>∀a∈as,a.ok n
 |.eqs l=>∀p∈l,p.1.ok n/\p.2.ok n
 |.sel i as=>i.ok n/\∀a∈as,a.ok n
 |.put i _ x y=>i.ok n/\x.ok n/\y.ok n
 |.llen x=>x.ok n
 |.lget x i=>x.ok n/\i.ok n
 |.lapp x as=>x.ok n/\∀a∈as,a.ok n
 |.lsub x lo hi=>x.ok n/\lo.ok n/\hi.ok n
 |.lput x i y=>x.ok n/\i.ok n/\y.ok n
 |.lrep c y=>c.ok n/\y.ok n
 |.lcpy x y=>x.ok n/\y.ok n
 |.lcat x y=>x.ok n/\y.ok n
 |.lsame x y=>x.ok n/\y.ok n
theorem X2{as:List A}{n:Nat}{e e':Nat->Int}(h:∀a∈as,a.ok n)(he:∀i,i<n->e' i=e i):as.map (·.ev e')=as.map (·.ev e) :=
 H7 fun a ha=>A.Xaq (h a ha) he
theorem D.Xaq{T:List K}{d:D}{n:Nat}{e e':Nat->Int}(h:d.ok n)(he:∀i,i<n->e' i=e i):d.ev T e'=d.ev T e:=by
 cases d with
 |bin op k a b=>simp only[D.ev,A.Xaq h.1 he,A.Xaq h.2 he]
 |cmp op a b=>simp only[D.ev,A.Xaq h.1 he,A.Xaq h.2 he]
 |conv k a=>simp only[D.ev,A.Xaq h he]
 |not a=>simp only[D.ev,A.Xaq h he]
 |app g j as=>simp only[D.ev,X2 h he]
 |join as=>simp only[D.ev,X2 h he]
 |sel i as=>simp only[D.ev,A.Xaq h.1 he,X2 h.2 he]
 |put i j x y=>simp only[D.ev,A.Xaq h.1 he,A.Xaq h.2.1 he,A.Xaq h.2.2 he]
 |llen x=>simp only[D.ev,A.Xaq h he]
 |lget x i=>simp only[D.ev,A.Xaq h.1 he,A.Xaq h.2 he]
 |lapp x as=>simp only[D.ev,A.Xaq h.1 he,X2 h.2 he]
 |lsub x lo hi=>simp only[D.ev,A.Xaq h.1 he,A.Xaq h.2.1 he,A.Xaq h.2.2 he]
 |lput x i y=>simp only[D.ev,A.Xaq h.1 he,A.Xaq h.2.1 he,A.Xaq h.2.2 he]
 |lrep c y=>simp only[D.ev,A.Xaq h.1 he,A.Xaq h.2 he]
 |lcpy x y=>simp only[D.ev,A.Xaq h.1 he,A.Xaq h.2 he]
 |lcat x y=>simp only[D.ev,A.Xaq h.1 he,A.Xaq h.2 he]
 |lsame x y=>simp only[D.ev,A.Xaq h.1 he,A.Xaq h.2 he]
 |eqs l =>
  simp only[D.ev];congr 1
  induction l with
  |nil=>rfl
  |cons p l ih =>
   have hp:=h p (Mr ..);simp only[L1,A.Xaq hp.1 he,A.Xaq hp.2 he];rw[ih fun q hq=>h q (Mq _ hq)]
def Zf(T:List K):(Nat->Int)->Nat->Defs->Prop
 |_,_,[]=>True
 |e,nn,(kk,d)::ds=>d.ok nn/\kk.has (d.ev T e)/\Zf T (upd e nn (d.ev T e)) (nn+1) ds
def Told(T:List K)(e':Nat->Int)(nn:Nat)(ds:Defs):Prop :=
 ∀(i:Nat) kk d,ds[i]?=some (kk,d)->e' (nn+i)=d.ev T e'/\kk.has (e' (nn+i))
section
variable {T:List K}
theorem Xe{goal:Gl}{t:Qq}:∀(ds:Defs) (e:Nat->Int) (nn:Nat),(Vw nn ds t).holds T goal e->Zf T e nn ds ->
  ∃e',(∀i,i<nn->e' i=e i)/\(∀i,nn+ds.length<=i->e' i=e i)/\Told T e' nn ds/\t.holds T goal e':=by
 intro ds
 induction ds with
 |nil=>intro e nn h _;exact⟨e,fun _ _=>rfl,fun _ _=>rfl,fun i kk d h=>by simp at h,h⟩
 |cons x ds ih =>
  intro e nn h hg;obtain⟨kk,d⟩:=x;obtain⟨h1,h2,h3⟩:=hg;have h4:=h _ rfl h2;obtain⟨e',g1,g2,g3,g4⟩:=ih _ _ h4 h3;have hlow:∀i,i<nn->e' i=e i:=fun i hi=>by rw[g1 i (by omega)];simp[upd];omega
  have hev:d.ev T e'=d.ev T e:=D.Xaq h1 hlow;have hnn:e' nn=d.ev T e:=by rw[g1 nn (by omega)];simp[upd]
  refine⟨e',hlow,fun i hi=>?_,fun i kk' d' hi=>?_,g4⟩
  ·simp only[Ov]at hi;rw[g2 i (by omega)];simp[upd];omega
  ·cases i with
   |zero=>simp at hi;obtain⟨rfl,rfl⟩:=hi;simp only[Mk];rw[hnn,hev];exact⟨rfl,h2⟩
   |succ i=>have:=g3 i kk' d' (by simpa using hi);rwa[show nn+1+i=nn+(i+1) by omega]at this
theorem Told.append{e':Nat->Int}{nn:Nat}{ds ds':Defs}:Told T e' nn (ds++ds')↔Told T e' nn ds/\Told T e' (nn+ds.length) ds':=by
 constructor
 ·intro h;refine⟨fun i kk d hi=>h i kk d ?_,fun i kk d hi=>?_⟩
  ·have hl:=(Ow.1 hi).1;rw[Mm hl];exact hi
  ·have:=h (ds.length+i) kk d (by rw[Mf (by omega)];simpa using hi);rwa[<- Kn]at this
 ·rintro ⟨h1,h2⟩ i kk d hi
  by_cases hl:i<ds.length
  ·rw[Mm hl]at hi;exact h1 i kk d hi
  ·rw[Mf (by omega)]at hi;have:=h2 _ kk d hi;rwa[show nn+ds.length+(i-ds.length)=nn+i by omega]at this
theorem Q5:∀(ds:Defs) (e:Nat->Int) (nn:Nat) (ds':Defs),Zf T e nn ds->(∀e',(∀i,i<nn->e' i=e i)->Told T e' nn ds->Zf T e' (nn+ds.length) ds')->Zf T e nn (ds++ds'):=by
 intro ds
 induction ds with
 |nil=>intro e nn ds' _ h;exact h e (fun _ _=>rfl) (fun i kk d h=>by simp at h)
 |cons x ds ih =>
  intro e nn ds' hg h;obtain⟨kk,d⟩:=x;obtain⟨h1,h2,h3⟩:=hg;refine⟨h1,h2,ih _ _ _ h3 fun e' he ht=>?_⟩;have hlow:∀i,i<nn->e' i=e i:=fun i hi=>by rw[he i (by omega)];simp[upd];omega
  have hev:d.ev T e'=d.ev T e:=D.Xaq h1 hlow;have hnn:e' nn=d.ev T e:=by rw[he nn (by omega)];simp[upd]
  have:=h e' hlow fun i kk' d' hi=>by
   cases i with
   |zero=>simp at hi;obtain⟨rfl,rfl⟩:=hi;simp only[Mk];rw[hnn,hev];exact⟨rfl,h2⟩
   |succ i=>have:=ht i kk' d' (by simpa using hi);rwa[show nn+1+i=nn+(i+1) by omega]at this
  simpa[Kn,H2 1]using this
theorem Zgg{e:Nat->Int}{nn:Nat}{kk:KK}{d:D}(h1:d.ok nn)(h2:kk.has (d.ev T e)):Zf T e nn (mk nn kk d).1:=by
 unfold mk;split
 ·trivial
 ·exact⟨h1,h2,trivial⟩
end
theorem Z8(x r:Int)(h0:0<=x)(h1:x<18446744073709551616)(j:Nat) :
  (x+18446744073709551616*r)/p64 (j+1)=r/p64 j:=by
 have e:p64 (j+1)=18446744073709551616*p64 j:=by
  unfold p64;rw[Nat.mul_add,Nat.pow_add,Nat.mul_comm];simp
 rw[e,<- Kt (by omega)];congr 1;omega
theorem Uh(x r:Int)(h0:0<=x)(h1:x<18446744073709551616):(x+18446744073709551616*r)/p64 0%18446744073709551616=x:=by
 have e:p64 0=1:=rfl;rw[e,Oan];omega
theorem Qvk{a b c d e f:Int}(ha:0<=a/\a<18446744073709551616)(hb:0<=b/\b<18446744073709551616)(hc:0<=c/\c<18446744073709551616)
  (hd:0<=d/\d<18446744073709551616) (he:0<=e/\e<18446744073709551616) (hf:0<=f/\f<18446744073709551616) :
  Jw (Y6 [a,b,c,d,e,f])=[.int .u64 a,.int .u64 b,.int .u64 c,.int .u64 d,.int .u64 e,.int .u64 f]/\0<=Y6 [a,b,c,d,e,f]/\Y6 [a,b,c,d,e,f]<Qw:=by
 refine⟨?_,?_⟩
 ·have hr:List.range 6=[0,1,2,3,4,5]:=rfl;simp only[Jw,hr,Mn,M7,Y6]
  rw[Uh a _ ha.1 ha.2,Z8 a _ ha.1 ha.2 0,Uh b _ hb.1 hb.2,Z8 a _ ha.1 ha.2 1,Z8 b _ hb.1 hb.2 0,Uh c _ hc.1 hc.2,
   Z8 a _ ha.1 ha.2 2,Z8 b _ hb.1 hb.2 1,Z8 c _ hc.1 hc.2 0,Uh d _ hd.1 hd.2,
   Z8 a _ ha.1 ha.2 3,Z8 b _ hb.1 hb.2 2,Z8 c _ hc.1 hc.2 1,Z8 d _ hd.1 hd.2 0,Uh e _ he.1 he.2,
   Z8 a _ ha.1 ha.2 4,Z8 b _ hb.1 hb.2 3,Z8 c _ hc.1 hc.2 2,Z8 d _ hd.1 hd.2 1,Z8 e _ he.1 he.2 0,Uh f _ hf.1 hf.2]
 ·simp only[Y6,Qw];omega
theorem LK.hasL.sub{k:LK}{l:List Int}(h:k.hasL l)(hi lo:Nat):k.hasL ((l.take hi).drop lo) :=
 ⟨by have:=h.1;simp only[Mp,O6];omega,fun z hz=>h.2 z (H4 (List.mem_of_mem_drop hz))⟩
theorem Zb{x:Int}(h:has .u64 x):0<=x/\x<18446744073709551616:=by simp only[has,lo,hi]at h;omega
section
variable {T:List K}{m:M}{nv:Nat}{al:Nat->Bool}
theorem Zs1{c c':C}{v:Value}(h:cEq c c'=true)(hv:c'.rel m nv al v):v=Zf5 c:=by
 unfold cEq at h;split at h <;> simp only[C.rel]at hv
 ·simp at h;obtain⟨rfl,rfl⟩:=h;exact hv.2.2
 ·simp at h;subst h;exact hv.2.2
 ·simp at h;subst h;rw[hv.2];rfl
 ·have h:=of_decide_eq_true h;subst h;exact hv
 all_goals (first|exact hv|cases h)
theorem Zs8{as:List A}{n:Nat}(h:uni as=some n):as=[.m n 0,.m n 1,.m n 2,.m n 3,.m n 4,.m n 5]:=by
 unfold uni at h;split at h
 ·split at h
  ·rename_i hh;simp at hh h;obtain⟨⟨⟨⟨rfl,rfl⟩,rfl⟩,rfl⟩,rfl⟩:=hh;rw[h]
  ·cases h
 ·cases h
theorem Qxu(e:Nat->Int):∀(as:List A) (l:List Int),Zh A.lit? as=some l->as.map (·.ev e)=l:=by
 intro as
 induction as with
 |nil=>intro l hm;simp[Zh]at hm;subst hm;rfl
 |cons a as ih =>
  intro l hm;unfold Zh at hm;split at hm
  ·cases hm
  ·rename_i y hy;split at hm
   ·cases hm
   ·rename_i ys hys;cases hm;simp only[Mn,ih _ hys];congr 1;cases a <;> simp[A.lit?]at hy
    subst hy;rfl
theorem Zhc{as:List A}{n:Int}(h:Zax as=some n)(e:Nat->Int):Y6 (as.map (·.ev e))=n:=by
 unfold Zax at h;cases hm:Zh A.lit? as with
 |none=>simp[hm]at h
 |some l=>simp[hm]at h;rw[Qxu e as l hm,h]
theorem Zl5{nn:Nat}{a b c d e f:A}{v0 v1 v2 v3 v4 v5:Value}
  (h0:C.rel m nv al (.int .u64 a) v0) (h1:C.rel m nv al (.int .u64 b) v1) (h2:C.rel m nv al (.int .u64 c) v2) (h3:C.rel m nv al (.int .u64 d) v3) (h4:C.rel m nv al (.int .u64 e) v4) (h5:C.rel m nv al (.int .u64 f) v5) :
  (nv<=nn->Zf T m.env nn (Qjo nn [a,b,c,d,e,f]).1/\(Qjo nn [a,b,c,d,e,f]).2.ok (nn+(Qjo nn [a,b,c,d,e,f]).1.length)) /\
  ∀e',(∀i,i<nv->e' i=m.env i)->Told T e' nn (Qjo nn [a,b,c,d,e,f]).1 ->
   Jw ((Qjo nn [a,b,c,d,e,f]).2.ev e')=[v0,v1,v2,v3,v4,v5]/\0<=(Qjo nn [a,b,c,d,e,f]).2.ev e'/\(Qjo nn [a,b,c,d,e,f]).2.ev e'<Qw:=by
 have hj:=Qvk (Zb h0.2.1) (Zb h1.2.1) (Zb h2.2.1) (Zb h3.2.1) (Zb h4.2.1) (Zb h5.2.1);rw[<- h0.2.2,<- h1.2.2,<- h2.2.2,<- h3.2.2,<- h4.2.2,<- h5.2.2]at hj;unfold Qjo;cases hu:uni [a,b,c,d,e,f]with
 |some n =>
  have hu':=Zs8 hu;simp only[List.cons.injEq,and_true]at hu';obtain⟨rfl,rfl,rfl,rfl,rfl,rfl⟩:=hu';have hlt:n<nv:=h0.1.1;refine⟨fun hn=>⟨trivial,by simp only[A.ok];omega⟩,fun e' he _=>?_⟩;have hen:e' n=m.env n:=he n hlt;refine⟨?_,?_⟩
  ·rw[h0.2.2,h1.2.2,h2.2.2,h3.2.2,h4.2.2,h5.2.2];have hv:(A.v n).ev e'=m.env n:=hen;rw[hv];rfl
  ·simp only[A.ev,hen];exact h0.1.2
 |none =>
  simp only;cases hl:Zax [a,b,c,d,e,f]with
  |some n =>
   have:=Zhc hl m.env;simp only[Mn,M7]at this;rw[this]at hj;exact⟨fun _=>⟨trivial,trivial⟩,fun e' _ _=>hj⟩
  |none =>
   simp only;have hok:∀x∈[a,b,c,d,e,f],x.ok nv:=by
    intro x hx;simp only[Mh,M6,or_false]at hx;rcases hx with rfl|rfl|rfl|rfl|rfl|rfl
    ·exact h0.1.1
    ·exact h1.1.1
    ·exact h2.1.1
    ·exact h3.1.1
    ·exact h4.1.1
    ·exact h5.1.1
   refine⟨fun hn=>⟨⟨fun x hx=>A.Xar (hok x hx) hn,hj.2,trivial⟩,by simp[A.ok]⟩,fun e' he ht=>?_⟩;have h6:=(ht 0 _ _ rfl).1;simp only[Mk]at h6;simp only[A.ev];rw[h6,D.Xaq (d:=.join [a,b,c,d,e,f]) hok he];exact hj
theorem Ziz{k:IntKind}{cs:List C}{as:List A}(h:Zh (Qw2 k) cs=some as):cs=as.map (.int k):=by
 induction cs generalizing as with
 |nil=>simp[Zh]at h;subst h;rfl
 |cons c cs ih =>
  unfold Zh at h;split at h
  ·cases h
  ·rename_i y hy;split at h
   ·cases h
   ·rename_i ys hys;cases h;unfold Qw2 at hy;split at hy
    ·split at hy
     ·rename_i hk;cases hy;simp at hk;subst hk;rw[Mn,<- ih hys]
     ·cases hy
    ·cases hy
theorem Qbg:∀ {as:List A} {k:IntKind} {vs:List Value},Rels m nv al (as.map (.int k)) vs->vs=(as.map (·.ev m.env)).map (.int k)/\∀x∈as,x.wf nv m.env/\has k (x.ev m.env)
 |[],k,[],_=>⟨rfl,by simp⟩
 |a::as,k,v::vs,h=>by
  obtain⟨h1,h2⟩:=Qbg (as:=as) h.2;refine⟨by simp only[Mn];rw[<- h1,h.1.2.2],fun x hx=>?_⟩;rcases Mh.1 hx with rfl|hx
  ·exact⟨h.1.1,h.1.2.1⟩
  ·exact h2 x hx
theorem Qqd{nn:Nat}{k:IntKind}{as:List A}{vs:List Value}(hr:Rels m nv al (as.map (.int k)) vs)(hl:as.length<=1024) :
  (nv<=nn->Zf T m.env nn (Qgg nn k as).1/\(Qgg nn k as).2.ok (nn+(Qgg nn k as).1.length))/\(Qgg nn k as).1.length=1 /\
  ∀e',(∀i,i<nv->e' i=m.env i)->Told T e' nn (Qgg nn k as).1->dec ((Qgg nn k as).2.ev e')=as.map (·.ev m.env):=by
 obtain⟨h1,h2⟩:=Qbg hr;have hL:(LK.int k).hasL (as.map (·.ev m.env)):=⟨by rw[O8];omega,fun z hz=>by obtain⟨x,hx,rfl⟩:=Mx.1 hz;exact(h2 x hx).2⟩
 unfold Qgg;cases hu:Qt2 k as with
 |none =>
  refine⟨fun hn=>⟨⟨⟨trivial,fun x hx=>A.Xar (h2 x hx).1.1 hn⟩,?_,trivial⟩,by show nn<nn+1;omega⟩,rfl,fun e' he ht=>?_⟩
  ·simp only[KK.has,D.ev,A.ev,Qv,Qu,Ox];exact⟨hL,by rw[O8]⟩
  ·have h0:=(ht 0 _ _ rfl).1;simp only[Mk,D.ev,A.ev,Qv,Ox]at h0;show dec (e' nn)=_;rw[h0,Qu];exact H7 fun x hx=>A.Xaq (h2 x hx).1.1 he
 |some n =>
  obtain⟨h3,h4⟩:=Qom hu;obtain⟨h5,h6,h7⟩:=Qyh hu hr;have key:(dec (m.env n)).take as.length=as.map (·.ev m.env):=by
   refine Oai fun i=>?_
   rw[Ku,M2];split
   ·rename_i hi;rw[O1 hi,L4,h4 i _ (O1 hi)];simp only[A.ev];rw[Ou,O1 (by omega)];rfl
   ·rename_i hi;rw[My (by omega)];rfl
  refine⟨fun hn=>⟨⟨⟨by show n<nn;omega,trivial,trivial⟩,?_,trivial⟩,by show nn<nn+1;omega⟩,rfl,fun e' he ht=>?_⟩
  ·simp only[KK.has,D.ev,A.ev,Qu,Mi,H8,K3,key];exact⟨hL,by rw[O8]⟩
  ·have h0:=(ht 0 _ _ rfl).1;simp only[Mk,D.ev,A.ev,Mi,H8,K3]at h0;show dec (e' nn)=_;rw[h0,Qu,he n h7,key]
theorem Xm:∀(ls:List L) (cs:List C) (nn:Nat) (ds:Defs) (as:List A),Xp nn ls cs=some (ds,as)->∀(m:M) (nv:Nat) (vs:List Value),Rels m nv al cs vs ->
  (nv<=nn->Zf T m.env nn ds/\(∀a∈as,a.ok (nn+ds.length)))/\as.length=Qs ls /\
  ∀e',(∀i,i<nv->e' i=m.env i)->Told T e' nn ds->Z2 ls (as.map (·.ev e'))=vs/\Xq ls (as.map (·.ev e')):=by
 intro ls
 induction ls with
 |nil =>
  intro cs nn ds as h m nv vs hr;unfold Xp at h;split at h
  ·cases h
   match vs,hr with
   |[],_=>exact⟨fun _=>⟨trivial,by simp⟩,rfl,fun e' _ _=>⟨rfl,trivial⟩⟩
  all_goals (rename_i hh;first|(exact absurd rfl hh)|(simp_all;done)|cases h)
 |cons l ls ih =>
  intro cs nn ds as h m nv vs hr;unfold Xp at h;split at h
  ·rename_i hc;cases hc
  ·rename_i c ls' c' cs' hcl;simp only[List.cons.injEq]at hcl;obtain⟨rfl,rfl⟩:=hcl;split at h
   ·rename_i hce
    match vs,hr with
    |v::vs,hr =>
     obtain⟨g1,g3,g4⟩:=ih _ _ _ _ h m nv vs hr.2;refine⟨g1,by simp[Qs,L.n,g3],fun e' he ht=>?_⟩;obtain⟨g5,g6⟩:=g4 e' he ht;exact⟨by simp only[Z2];rw[g5,<- Zs1 hce hr.1],g6⟩
   ·cases h
  ·rename_i k ls' k' a cs' hcl;simp only[List.cons.injEq]at hcl;obtain⟨rfl,rfl⟩:=hcl;split at h
   ·rename_i hk;simp at hk;subst hk;cases hq:Xp nn ls cs' with
    |none=>simp[hq]at h
    |some q =>
     obtain⟨q1,q2⟩:=q;simp[hq]at h;obtain⟨rfl,rfl⟩:=h
     match vs,hr with
     |v::vs,hr =>
      obtain⟨g1,g3,g4⟩:=ih _ _ _ _ hq m nv vs hr.2;refine⟨fun hn=>⟨(g1 hn).1,?_⟩,by simp[Qs,L.n,g3,H2],fun e' he ht=>?_⟩
      ·intro x hx;rcases Mh.1 hx with rfl|hx
       ·exact A.Xar hr.1.1.1 (by omega)
       ·exact(g1 hn).2 x hx
      ·obtain⟨g5,g6⟩:=g4 e' he ht;have hev:a.ev e'=a.ev m.env:=A.Xaq hr.1.1.1 he;simp only[Mn,hev];exact⟨by simp only[Z2];rw[g5,hr.1.2.2],hr.1.2.1,g6⟩
   ·cases h
  ·rename_i ls' a cs' hcl;simp only[List.cons.injEq]at hcl;obtain⟨rfl,rfl⟩:=hcl;have h':(Xp nn ls cs').map (fun r=>(r.1,a::r.2))=some (ds,as):=by
    split at h
    ·split at h
     ·exact h
     ·cases h
    ·exact h
   clear h;cases hq:Xp nn ls cs' with
   |none=>simp[hq]at h'
   |some q =>
    obtain⟨q1,q2⟩:=q;simp[hq]at h';obtain⟨rfl,rfl⟩:=h'
    match vs,hr with
    |v::vs,hr =>
     obtain⟨g1,g3,g4⟩:=ih _ _ _ _ hq m nv vs hr.2;refine⟨fun hn=>⟨(g1 hn).1,?_⟩,by simp[Qs,L.n,g3,H2],fun e' he ht=>?_⟩
     ·intro x hx;rcases Mh.1 hx with rfl|hx
      ·exact A.Xar hr.1.1.1 (by omega)
      ·exact(g1 hn).2 x hx
     ·obtain⟨g5,g6⟩:=g4 e' he ht;have hev:a.ev e'=a.ev m.env:=A.Xaq hr.1.1.1 he;simp only[Mn,hev];exact⟨by simp only[Z2];rw[g5,hr.1.2.2],hr.1.2.1,g6⟩
  ·rename_i ls' a b c d e f cs' hcl;simp only[List.cons.injEq]at hcl;obtain⟨rfl,rfl⟩:=hcl;split at h
   ·cases h
   ·rename_i as6 h6;split at h
    ·cases h
    ·rename_i r hq;obtain⟨q1,q2⟩:=r;simp at h;obtain⟨rfl,rfl⟩:=h;unfold Zxf at h6;split at h6
     ·rename_i a' b' c' d' e' f' hsix;cases h6;simp only[List.cons.injEq,and_true]at hsix;obtain⟨rfl,rfl,rfl,rfl,rfl,rfl⟩:=hsix
      match vs,hr with
      |v0::v1::v2::v3::v4::v5::vs,hr =>
       obtain⟨r0,r1,r2,r3,r4,r5,hr⟩:=hr;obtain⟨n1,n3⟩:=Zl5 (T:=T) (nn:=nn) r0 r1 r2 r3 r4 r5;obtain⟨g1,g3,g4⟩:=ih _ _ _ _ hq m nv vs hr;refine⟨fun hn=>⟨Q5 _ _ _ _ (n1 hn).1 fun e1 he1 ht1=>?_,?_⟩,by simp[Qs,L.n,g3,H2],fun e2 he2 ht2=>?_⟩
       ·have hx:MExt m nv al {m with env:=e1 } nv al:=⟨fun i hi=>he1 i (by omega),fun _ _=>rfl,rfl,fun _ _=>rfl,Nat.le_refl _,fun _ h=>h⟩
        exact((ih _ _ _ _ hq {m with env:=e1 } nv vs (hr.mono hx)).1 (by omega)).1
       ·intro x hx;rcases Mh.1 hx with rfl|hx
        ·exact A.Xar (n1 hn).2 (by simp)
        ·exact A.Xar ((g1 (by omega)).2 x hx) (by simp;omega)
       ·rw[Told.append]at ht2;obtain⟨n4,n5⟩:=n3 e2 he2 ht2.1;obtain⟨g5,g6⟩:=g4 e2 he2 ht2.2;simp only[Mn,Z2,Xq,g5,n4];exact⟨rfl,n5,g6⟩
     ·cases h6
  ·rename_i cs' k n ls' hcl;simp only[List.cons.injEq]at hcl;obtain⟨rfl,rfl⟩:=hcl;split at h
   ·cases h
   ·rename_i as1 h6;split at h
    ·rename_i hln;simp only[Oo,beq_iff_eq,decide_eq_true_eq]at hln;split at h
     ·cases h
     ·rename_i r hq;obtain⟨q1,q2⟩:=r;simp at h;obtain⟨rfl,rfl⟩:=h;have hr1:Rels m nv al (as1.map (.int k)) (vs.take n):=by rw[<- Ziz h6];exact hr.take n
      obtain⟨h1,h2⟩:=Qbg hr1;obtain⟨n1,n2,n3⟩:=Qqd (T:=T) (nn:=nn) hr1 (by omega);obtain⟨g1,g3,g4⟩:=ih _ _ _ _ hq m nv _ (hr.drop n);refine⟨fun hn=>⟨Q5 _ _ _ _ (n1 hn).1 fun e1 he1 ht1=>?_,?_⟩,by simp[Qs,L.n,g3,H2],fun e2 he2 ht2=>?_⟩
      ·have hx:MExt m nv al {m with env:=e1 } nv al:=⟨fun i hi=>he1 i (by omega),fun _ _=>rfl,rfl,fun _ _=>rfl,Nat.le_refl _,fun _ h=>h⟩
       exact((ih _ _ _ _ hq {m with env:=e1 } nv _ ((hr.drop n).mono hx)).1 (by omega)).1
      ·intro x hx;rcases Mh.1 hx with rfl|hx
       ·exact A.Xar (n1 hn).2 (by simp)
       ·exact A.Xar ((g1 (by omega)).2 x hx) (by simp;omega)
      ·rw[Told.append]at ht2;have n4:=n3 e2 he2 ht2.1;obtain⟨g5,g6⟩:=g4 e2 he2 ht2.2;simp only[Mn,Z2,Xq,g5,n4,<- h1];refine⟨Hs n vs,⟨⟨by rw[O8];omega,fun z hz=>?_⟩,by rw[O8];exact hln.1⟩,g6⟩;obtain⟨x,hx,rfl⟩:=Mx.1 hz;exact(h2 x hx).2
    ·cases h
  ·cases h
end
theorem Qcw{m:M}{nv nn:Nat}{al:Nat->Bool}{k:IntKind}{l:List Int}(he:dec (m.env nn)=l)(hk:(LK.int k).hasL l)(hn:nn<nv):∀(n j:Nat),j+n=l.length->Rels m nv al (Qkt k nn n j) ((l.drop j).map (.int k))
 |0,j,h=>by rw[Kp (by omega)];trivial
 |n+1,j,h=>by
  have hj:j<l.length:=by omega
  rw[List.drop_eq_getElem_cons hj];have e1:A.ev m.env (.elt k nn j)=l[j]:=by simp only[A.ev,he];simp[hj]
  refine⟨⟨⟨hn,by simp only[A.Xbv,he];exact⟨hk.2,hj⟩⟩,?_,?_⟩,Qcw he hk hn n (j+1) (by omega)⟩
  ·rw[e1];exact hk.2 _ (Kk hj)
  ·rw[e1]
theorem Qlm{m:M}{nv nn:Nat}{al:Nat->Bool}{k:IntKind}{y:Int}{n:Nat}(he:m.env nn=y)(hk:(LK.int k).hasL (dec y))(hl:(dec y).length=n)(hn:nn<nv):Rels m nv al (Qkt k nn n 0) ((dec y).map (.int k)):=by
 have:=Qcw (m:=m) (nv:=nv) (al:=al) (l:=dec y) (by rw[he]) hk hn n 0 (by omega);simpa using this
section
variable {T:List K}{w0:World}{Y:St}{a:Act}{w:World}
theorem LL.Xbi(l:LL):0<l.sz:=by cases l <;> simp[LL.sz]
theorem Xbi(k:LK):0<k.sz:=by
 cases k with
 |num=>simp[LK.sz]
 |int k=>simp[LK.sz]
 |tup l ls=>have:=l.Xbi;simp only[LK.sz];omega
 |byt=>simp[LK.sz]
theorem Qah:∀(ls:List LL) (xs:List Int),Xq (ls.map LL.leaf) xs->Z2 (ls.map LL.leaf) xs=Va ls xs/\Qn2 ls xs
 |[],[],_=>⟨rfl,trivial⟩
 |[],_::_,h=>h.elim
 |l::ls,[],h=>by cases l <;> exact h.elim
 |l::ls,x::xs,h=>by
  cases l with
  |num =>
   obtain⟨i1,i2⟩:=Qah ls xs h.2;exact⟨by show Jw x++Z2 (ls.map LL.leaf) xs=Jw x++Va ls xs;rw[i1],h.1,i2⟩
  |int k =>
   obtain⟨i1,i2⟩:=Qah ls xs h.2;exact⟨by show Value.int k x::Z2 (ls.map LL.leaf) xs=[Value.int k x]++Va ls xs;rw[i1];rfl,h.1,i2⟩
  |bit =>
   obtain⟨i1,i2⟩:=Qah ls xs h.2;exact⟨by show Value.bool (decide (x≠0))::Z2 (ls.map LL.leaf) xs=[Value.bool (decide (x≠0))]++Va ls xs;rw[i1];rfl,h.1,i2⟩
theorem Qe1{k:LK}{nn:Nat}{cs:List C}{ds:Defs}{y:A}{al:Nat->Bool}(h:takeK nn k cs=some (ds,y))(m:M)(nv:Nat)(vs:List Value)(hr:Rels m nv al cs vs) :
  (nv<=nn->Zf T m.env nn ds/\y.ok (nn+ds.length))/\∀e',(∀i,i<nv->e' i=m.env i)->Told T e' nn ds->k.Xa9 (y.ev e')=vs/\k.has (y.ev e'):=by
 have one:∀ {r:Option (Defs×List A)},Zlk r=some (ds,y)->r=some (ds,[y]):=fun {r} h=>by
  unfold Zlk at h;split at h
  ·cases h;rfl
  ·cases h
 cases k with
 |num =>
  obtain⟨g1,_,g4⟩:=Xm (T:=T) _ _ _ _ _ (one h) m nv vs hr;refine⟨fun hn=>⟨(g1 hn).1,(g1 hn).2 y (by simp)⟩,fun e' he ht=>?_⟩;obtain⟨g5,g6⟩:=g4 e' he ht;exact⟨by rw[<- g5];simp[Z2,LK.Xa9],g6.1⟩
 |int k =>
  obtain⟨g1,_,g4⟩:=Xm (T:=T) _ _ _ _ _ (one h) m nv vs hr;refine⟨fun hn=>⟨(g1 hn).1,(g1 hn).2 y (by simp)⟩,fun e' he ht=>?_⟩;obtain⟨g5,g6⟩:=g4 e' he ht;exact⟨by rw[<- g5];rfl,g6.1⟩
 |byt=>cases h
 |tup l ls =>
  unfold takeK at h;simp only at h;split at h
  ·rename_i ds0 as htk;cases h;obtain⟨g1,_,g4⟩:=Xm (T:=T) _ _ _ _ _ htk m nv vs hr;refine⟨fun hn=>⟨Q5 _ _ _ _ (g1 hn).1 fun e1 he1 ht1=>⟨⟨trivial,(g1 hn).2⟩,trivial,trivial⟩,?_⟩,fun e' he ht=>?_⟩
   ·show nn+ds0.length<nn+(ds0++_).length;simp
   ·obtain⟨t1,t2⟩:=Told.append.1 ht;have h0:e' (nn+ds0.length+0)=enc (dec 0++as.map (·.ev e')):=(t2 0 _ _ rfl).1;rw[Mk,Qv,Ox]at h0;obtain⟨g5,g6⟩:=g4 e' he t1;obtain⟨g7,g8⟩:=Qah (l::ls) _ g6;show(LK.tup l ls).Xa9 (e' (nn+ds0.length))=vs/\(LK.tup l ls).has (e' (nn+ds0.length));rw[h0];show Va (l::ls) (dec (enc (as.map (·.ev e'))))=vs/\Qn2 (l::ls) (dec (enc (as.map (·.ev e'))));rw[Qu];exact⟨by rw[<- g5,<- g7],g8⟩
  ·cases h
theorem Qds{m:M}{nv:Nat}{al:Nat->Bool}:∀(n:Nat) {cs:List C} {vs:List Value},Rels m nv al cs vs->Rels m nv al (cs.take n) (vs.take n)/\Rels m nv al (cs.drop n) (vs.drop n)
 |0,_,_,h=>⟨trivial,h⟩
 |n+1,[],[],_=>⟨trivial,trivial⟩
 |n+1,[],_::_,h=>h.elim
 |n+1,_::_,[],h=>h.elim
 |n+1,_::_,_::_,h=>⟨⟨h.1,(Qds n h.2).1⟩,(Qds n h.2).2⟩
theorem V8{k:LK}{al:Nat->Bool}:∀(n nn:Nat) (cs:List C) (ds:Defs) (as:List A),takeNK k nn n cs=some (ds,as)->∀(m:M) (nv:Nat) (vs:List Value),Rels m nv al cs vs ->
  (nv<=nn->Zf T m.env nn ds/\(∀a∈as,a.ok (nn+ds.length)))/\as.length=n /\
  ∀e',(∀i,i<nv->e' i=m.env i)->Told T e' nn ds->flat k (as.map (·.ev e'))=vs/\∀x∈as.map (·.ev e'),k.has x
 |0,nn,cs,ds,as,h,m,nv,vs,hr=>by
  unfold takeNK at h;split at h
  ·cases h
   match vs,hr with
   |[],_=>exact⟨fun _=>⟨trivial,by simp⟩,rfl,fun e' _ _=>⟨rfl,by simp⟩⟩
  ·cases h
 |n+1,nn,cs,ds,as,h,m,nv,vs,hr=>by
  unfold takeNK at h;split at h
  ·cases h
  ·rename_i d hd;split at h
   ·cases h
   ·rename_i r hq;cases h;obtain⟨q1,q2⟩:=Qds k.sz hr;obtain⟨n1,n3⟩:=Qe1 (T:=T) (ds:=d.1) (y:=d.2) hd m nv _ q1;obtain⟨g1,g3,g4⟩:=V8 n _ _ r.1 r.2 hq m nv _ q2;refine⟨fun hn=>⟨Q5 _ _ _ _ (n1 hn).1 fun e1 he1 ht1=>?_,?_⟩,by rw[Ov,g3],fun e2 he2 ht2=>?_⟩
    ·have hx:MExt m nv al {m with env:=e1 } nv al:=⟨fun i hi=>he1 i (by omega),fun _ _=>rfl,rfl,fun _ _=>rfl,Nat.le_refl _,fun _ h=>h⟩
     exact((V8 n _ _ r.1 r.2 hq {m with env:=e1 } nv _ (q2.mono hx)).1 (by omega)).1
    ·intro x hx;rcases Mh.1 hx with rfl|hx
     ·exact A.Xar (n1 hn).2 (by simp)
     ·exact A.Xar ((g1 (by omega)).2 x hx) (by simp;omega)
    ·rw[Told.append]at ht2;obtain⟨n4,n5⟩:=n3 e2 he2 ht2.1;obtain⟨g5,g6⟩:=g4 e2 he2 ht2.2;refine⟨?_,?_⟩
     ·show k.Xa9 (d.2.ev e2)++flat k (r.2.map (·.ev e2))=vs;rw[n4,g5,Hs]
     ·intro x hx;rcases Mh.1 hx with rfl|hx
      ·exact n5
      ·exact g6 x hx
theorem Qac{w:World}{ad:Addr}{n:Nat}{v:Value}(h:w.cell? (ad.add n)=some v):ad.block<w.heap.size:=by
 have hb:(ad.add n).block=ad.block:=by unfold Addr.add;split <;> rfl
 unfold World.cell? at h;rw[hb]at h;rcases Ha ad.block w.heap.size with h'|h'
 ·exact h'
 ·rw[Oad h']at h;cases h
theorem Vg{s:Sh}{v:V}{nn:Nat}{ds:Defs}{as:List A}(h:takeSh Y nn s v=some (ds,as)){m:M}(hrep:Rep w0 m Y a w){u:Value}(hu:v.rel m Y.nv Y.al u) :
  (Y.nv<=nn->Zf T m.env nn ds/\(∀a∈as,a.ok (nn+ds.length)))/\as.length=Qs s.leaves /\
  ∀e',(∀i,i<Y.nv->e' i=m.env i)->Told T e' nn ds->Xq s.leaves (as.map (·.ev e'))/\s.rel w (as.map (·.ev e')) u:=by
 unfold takeSh at h;split at h
 ·rename_i l c;obtain⟨g1,g3,g4⟩:=Xm (T:=T) _ _ _ _ _ h m Y.nv [u] ⟨hu,trivial⟩;refine⟨g1,g3,fun e' he ht=>?_⟩;obtain⟨g5,g6⟩:=g4 e' he ht;exact⟨g6,g5.symm⟩
 ·rename_i ls cs;obtain⟨vs,rfl,hr⟩:=hu;obtain⟨g1,g3,g4⟩:=Xm (T:=T) _ _ _ _ _ h m Y.nv vs hr;refine⟨g1,g3,fun e' he ht=>?_⟩;obtain⟨g5,g6⟩:=g4 e' he ht;exact⟨g6,by simp only[Sh.rel];rw[g5]⟩
 ·rename_i ls id off;split at h
  ·cases h
  ·rename_i b hb;obtain⟨vs,hl,hr,hc⟩:=hrep.reads hb off ((b.cells.drop off).take (ls.foldl (fun n l=>n+(match l with|.num=>6|.lst _=>0|.arr _ n=>n|_=>1)) 0)).length (by rw[O6];omega);have e0:(b.cells.drop off).take ((b.cells.drop off).take (ls.foldl (fun n l=>n+(match l with|.num=>6|.lst _=>0|.arr _ n=>n|_=>1)) 0)).length=(b.cells.drop off).take (ls.foldl (fun n l=>n+(match l with|.num=>6|.lst _=>0|.arr _ n=>n|_=>1)) 0):=by
    rw[O6,List.take_eq_take_iff];omega
   rw[e0]at hr;obtain⟨g1,g3,g4⟩:=Xm (T:=T) _ _ _ _ _ h m Y.nv vs hr;refine⟨g1,g3,fun e' he ht=>?_⟩;obtain⟨g5,g6⟩:=g4 e' he ht;refine⟨g6,(m.rho id).1,(m.rho id).2+off,hu.2,fun j x hj=>?_⟩;rw[g5]at hj;have:=hc j x hj;rw[Bf]at this;simpa[M.at,Kn]using this
 ·rename_i k id;split at h
  ·rename_i r hr;split at h
   ·rename_i hk;cases h;have hk:=Zx hk;subst hk;have hu:Y.al id=true/\u=m.sv id/\u.oneCell'=true:=hu;obtain⟨q1,q2,_,_,q3⟩:=hrep.Xav hr;refine⟨fun hn=>⟨trivial,fun x hx=>?_⟩,rfl,fun e' he _=>?_⟩
    ·rw[Me.1 hx];exact A.Xar q2.1 (by simpa using hn)
    ·simp only[Mn,M7,Sh.leaves,Xq,Sh.rel,Lq];rw[A.Xaq q2.1 he,hu.2.1];exact⟨⟨q3.1,trivial⟩,q3.ro hrep.below.size⟩
   ·cases h
  ·cases h
 ·rename_i k;cases h;have hu:u=.slice none 0 0:=hu;refine⟨fun _=>⟨trivial,fun x hx=>by rw[Me.1 hx];trivial⟩,rfl,fun e' _ _=>?_⟩;simp only[Mn,M7,Sh.leaves,Xq,Sh.rel,Lq,A.ev,Qv];exact⟨⟨⟨by simp,by simp⟩,trivial⟩,.inl ⟨hu,rfl⟩⟩
 ·rename_i k x;split at h
  ·rename_i hk;cases h;have hk:=Zx hk;subst hk;obtain⟨b1,b2,b3,b4⟩:=(show C.rel m Y.nv Y.al (.rol x) u from hu)
   refine⟨fun hn=>⟨trivial,fun y hx=>?_⟩,rfl,fun e' he _=>?_⟩
   ·rw[Me.1 hx];exact A.Xar b1.1 (by simpa using hn)
   ·simp only[Mn,M7,Sh.leaves,Xq,Sh.rel,Lq];rw[A.Xaq b1.1 he];rw[hrep.base]at b3;exact⟨⟨b2,trivial⟩,b3.up hrep.below⟩
  ·cases h
 ·rename_i k id lo hi k';split at h
  ·rename_i r hr;split at h
   ·rename_i hk;simp only[Oo]at hk;cases h;have hk1:=Zx hk.1;have hk2:=Zx hk.2;subst hk1;subst hk2;obtain⟨b1,b2,b3,b4,b5,b6⟩:=(show C.rel m Y.nv Y.al (.slv id lo hi r.k) u from hu)
    obtain⟨q1,q2,q5,q6,q3⟩:=hrep.Xav hr;rw[q3.Xbh]at b4;have ro:=(q3.ro hrep.below.size).view (lo:=(lo.ev m.env).toNat) (hi:=(hi.ev m.env).toNat) (by omega) (by omega) b5;have hL:=q3.1.sub (hi.ev m.env).toNat (lo.ev m.env).toNat;refine⟨fun hn=>⟨⟨⟨A.Xar q2.1 hn,A.Xar b2.1 hn,A.Xar b3.1 hn⟩,by simp only[KK.has,D.ev,Qu];exact hL,trivial⟩,fun x hx=>by rw[Me.1 hx];show nn<nn+1;omega⟩,rfl,fun e' he ht=>?_⟩;have h0:=(ht 0 _ _ rfl).1;simp only[Mk,D.ev]at h0;rw[A.Xaq q2.1 he,A.Xaq b2.1 he,A.Xaq b3.1 he]at h0;simp only[Mn,M7,Sh.leaves,Xq,Sh.rel,Lq,A.ev,h0,Qu];exact⟨⟨hL,trivial⟩,ro⟩
   ·cases h
  ·cases h
 ·rename_i k id;split at h
  ·rename_i r hr;split at h
   ·rename_i hk;simp only[Oo]at hk;cases h;have hk1:=Zx hk.1;subst hk1;have hu:Y.al id=true/\u=m.sv id/\u.oneCell'=true:=hu;obtain⟨q1,q2,q5,q6,q3⟩:=hrep.Xav hr;have hb:=q3.1.1;refine⟨fun hn=>⟨⟨A.Xar q5.1 hn,by simp only[KK.has,D.ev,q6,has,lo,hi];omega,trivial⟩,fun x hx=>?_⟩,rfl,fun e' he ht=>?_⟩
    ·simp only[Mh,M6,or_false]at hx;rcases hx with rfl|rfl
     ·exact A.Xar q2.1 (by omega)
     ·show nn<nn+1;omega
    ·have h0:=(ht 0 _ _ rfl).1;simp only[Mk,D.ev]at h0;rw[A.Xaq q5.1 he,q6]at h0;obtain⟨bb,cap,hsv⟩:=q3.len;have hv0:A.ev e' (.v nn)=((dec (r.x.ev m.env)).length:Int):=h0;have hx0:A.ev e' r.x=A.ev m.env r.x:=A.Xaq q2.1 he;show Xq [.lst r.k,.int .i64] [A.ev e' r.x,A.ev e' (.v nn)]/\Qc6 r.k (fun v'=>RoRow w w r.k v' (dec (A.ev e' r.x))) (dec (A.ev e' r.x)) (A.ev e' (.v nn)) u;rw[hx0,hv0];refine⟨⟨q3.1,by simp only[has,lo,hi];omega,trivial⟩,m.sv id,q3.ro hrep.below.size,q3.2.2 hk.2,by omega,?_⟩;rw[hu.2.1,hsv,We,Mi]
   ·cases h
  ·cases h
 ·rename_i k id lo hi k';split at h
  ·rename_i r hr;split at h
   ·rename_i hk;simp only[Oo]at hk;obtain⟨⟨⟨hk1,hk2⟩,hk3⟩,hk4⟩:=hk;cases h;have hk1:=Zx hk1;have hk2:=Zx hk2;subst hk1;subst hk2;have hz0:=Qdd hk4;subst hz0;obtain⟨b1,b2,b3,b4,b5,b6⟩:=(show C.rel m Y.nv Y.al (.slv id (.lit 0) hi r.k) u from hu)
    obtain⟨q1,q2,q5,q6,q3⟩:=hrep.Xav hr;rw[q3.Xbh]at b4;have c1:0<=hi.ev m.env:=b4.2.1;have c2:hi.ev m.env<=((dec (r.x.ev m.env)).length:Int):=b4.2.2.1;have c3:=b4.2.2.2;refine⟨fun hn=>⟨trivial,fun x hx=>?_⟩,rfl,fun e' he ht=>?_⟩
    ·simp only[Mh,M6,or_false]at hx;rcases hx with rfl|rfl
     ·exact A.Xar q2.1 (by simpa using hn)
     ·exact A.Xar b3.1 (by simpa using hn)
    ·have hx0:A.ev e' r.x=A.ev m.env r.x:=A.Xaq q2.1 he;have hv0:A.ev e' hi=A.ev m.env hi:=A.Xaq b3.1 he;show Xq [.lst r.k,.int .i64] [A.ev e' r.x,A.ev e' hi]/\Qc6 r.k (fun v'=>RoRow w w r.k v' (dec (A.ev e' r.x))) (dec (A.ev e' r.x)) (A.ev e' hi) u;rw[hx0,hv0];exact⟨⟨q3.1,by simp only[has,lo,Sx.hi];omega,trivial⟩,m.sv id,q3.ro hrep.below.size,q3.2.2 hk3,⟨c1,c2⟩,W9.zero b5⟩
   ·cases h
  ·cases h
 ·rename_i k;cases h;have hu:u=.slice none 0 0:=hu;refine⟨fun _=>⟨trivial,fun x hx=>?_⟩,rfl,fun e' _ _=>?_⟩
  ·simp only[Mh,M6,or_false]at hx;rcases hx with rfl|rfl <;> trivial
  ·simp only[Mn,M7,Sh.leaves,Xq,Sh.rel,Lq,A.ev,Qv];exact⟨⟨⟨by simp,by simp⟩,⟨by simp[has,lo,hi],trivial⟩⟩,.slice none 0 0,.inl ⟨rfl,rfl⟩,rfl,by simp,by rw[hu];rfl⟩
 ·rename_i k id off n c;split at h
  ·cases h
  ·rename_i b hb;split at h
   ·rename_i hcond;simp only[Oo,decide_eq_true_eq]at hcond;obtain⟨⟨⟨hn0,hnc⟩,hn2⟩,hlen⟩:=hcond;split at h
    ·rename_i ds' as' htk;cases h;obtain⟨vs,hvl,hr,hc⟩:=hrep.reads hb off (n*k.sz) hlen;have hu:Y.al id=true/\u=.slice (some (m.at id off)) n c:=hu;obtain⟨g1,g3,g4⟩:=V8 (T:=T) _ _ _ _ _ htk m Y.nv vs hr;have Jd:∀e',(∀i,i<Y.nv->e' i=m.env i)->Told T e' nn ds'->k.hasL (as'.map (·.ev e'))/\RoRow w w k u (as'.map (·.ev e')):=fun e' he ht=>by
      obtain⟨v1,v2⟩:=g4 e' he ht;have hl:(as'.map (·.ev e')).length=n:=by rw[O8,g3]
      have f1:=v1.symm;refine⟨⟨by rw[hl];omega,v2⟩,.inr ⟨m.at id off,c,by rw[hl];exact hu.2,?_,by rw[hl];exact hnc,fun j x hj=>hc j x (by rw[f1];exact hj)⟩⟩;have hpos:0<vs.length:=by
       rw[hvl];exact Nat.mul_pos hn0 (Xbi k)
      have h0:=hc 0 _ (O1 hpos);exact(.inr (Qac h0))
     refine⟨fun hn=>⟨Q5 _ _ _ _ (g1 hn).1 fun e1 he1 ht1=>⟨⟨trivial,(g1 hn).2⟩,?_,trivial⟩,?_⟩,rfl,fun e' he ht=>?_⟩
     ·simp only[KK.has,D.ev,A.ev,Qv,Qu,Ox];exact(Jd e1 (fun i hi=>he1 i (by omega)) ht1).1
     ·intro x hx;rw[Me.1 hx];show nn+ds'.length<nn+(ds'++_).length;simp
     ·obtain⟨t1,t2⟩:=Told.append.1 ht;have h0:=(t2 0 _ _ rfl).1;simp only[Mk,D.ev,A.ev,Qv,Ox]at h0;obtain⟨f1,f2⟩:=Jd e' he t1;simp only[Mn,M7,Sh.leaves,Xq,Sh.rel,Lq,A.ev,h0,Qu];exact⟨⟨f1,trivial⟩,f2⟩
    ·cases h
   ·cases h
 ·rename_i k id off hi n;split at h
  ·cases h
  ·rename_i b hb;split at h
   ·rename_i hcond;simp only[Oo,decide_eq_true_eq]at hcond;obtain⟨⟨hn0,hn2⟩,hlen⟩:=hcond;split at h
    ·rename_i ds' as' htk;cases h;obtain⟨vs,hvl,hr,hc⟩:=hrep.reads hb off (n*k.sz) hlen;obtain⟨hu1,hu2,hu3,hu4⟩:=(show C.rel m Y.nv Y.al (.slS id off hi n) u from hu)
     obtain⟨g1,g3,g4⟩:=V8 (T:=T) _ _ _ _ _ htk m Y.nv vs hr;have Jd:∀e',(∀i,i<Y.nv->e' i=m.env i)->Told T e' nn ds'->k.hasL (as'.map (·.ev e'))/\k.hasL ((as'.map (·.ev e')).take (hi.ev m.env).toNat)/\RoRow w w k u ((as'.map (·.ev e')).take (hi.ev m.env).toNat):=fun e' he ht=>by
      obtain⟨v1,v2⟩:=g4 e' he ht;have hl:(as'.map (·.ev e')).length=n:=by rw[O8,g3]
      have f1:=v1.symm;have hl2:((as'.map (·.ev e')).take (hi.ev m.env).toNat).length=(hi.ev m.env).toNat:=by rw[O6,hl];omega
      refine⟨⟨by rw[hl];omega,v2⟩,⟨by rw[hl2];omega,fun z hz=>v2 z (H4 hz)⟩,.inr ⟨m.at id off,n,by rw[hl2];exact hu4,?_,by rw[hl2];omega,fun j x hj=>?_⟩⟩
      ·have hpos:0<vs.length:=by
        rw[hvl];exact Nat.mul_pos hn0 (Xbi k)
       have h0:=hc 0 _ (O1 hpos);exact(.inr (Qac h0))
      ·rw[Bo,Ku]at hj;split at hj
       ·exact hc j x (by rw[f1];exact hj)
       ·cases hj
     refine⟨fun hn=>⟨Q5 _ _ _ _ (g1 hn).1 fun e1 he1 ht1=>⟨⟨trivial,(g1 hn).2⟩,?_,⟨by show nn+ds'.length<nn+ds'.length+1;omega,trivial,A.Xar hu2.1 (by omega)⟩,?_,trivial⟩,?_⟩,rfl,fun e' he ht=>?_⟩
     ·simp only[KK.has,D.ev,A.ev,Qv,Qu,Ox];exact(Jd e1 (fun i hi=>he1 i (by omega)) ht1).1
     ·have hx:=Jd e1 (fun i hi=>he1 i (by omega)) ht1;have h1:∀v:Int,A.ev (upd e1 (nn+ds'.length) v) hi=A.ev m.env hi:=fun v=>A.Xaq hu2.1 fun i hi=>by simp only[upd];rw[if_neg (by omega)];exact he1 i (by omega)
      simp only[KK.has,D.ev,h1];simp only[A.ev,upd,if_true,Qv,Qu,Ox,H8,K3];exact hx.2.1
     ·intro x hx;rw[Me.1 hx];show nn+(ds'.length+1)<nn+(ds'++_).length;simp
     ·obtain⟨t1,t2⟩:=Told.append.1 ht;have h0:=(t2 0 _ _ rfl).1;have h1:=(t2 1 _ _ rfl).1;simp only[Mk,D.ev,A.ev,Qv,Ox]at h0;obtain⟨f1,f2,f3⟩:=Jd e' he t1;simp only[D.ev,A.Xaq hu2.1 he]at h1;simp only[A.ev,h0,Qu,H8,K3]at h1;rw[Kn]at h1;simp only[Mn,M7,Sh.leaves,Xq,Sh.rel,Lq,A.ev,h1,Qu];exact⟨⟨f2,trivial⟩,f3⟩
    ·cases h
   ·cases h
 ·cases h
theorem Zd7:∀(cs:List C) (nn:Nat) (ds:Defs) (as:List A),V0 Y nn cs=some (ds,as)->∀ {m:M},Rep w0 m Y a w->∀ {us:List Value},Rels m Y.nv Y.al cs us ->
  (Y.nv<=nn->Zf T m.env nn ds/\(∀a∈as,a.ok (nn+ds.length)))/\as.length=cs.length /\
  ∀e',(∀i,i<Y.nv->e' i=m.env i)->Told T e' nn ds->∀(j:Nat) x,as[j]?=some x->(LK.int .u8).hasL (dec (x.ev e'))/\∃u,us[j]?=some u/\RoRow w w (.int .u8) u (dec (x.ev e')):=by
 intro cs
 induction cs with
 |nil =>
  intro nn ds as h m _ us hu;cases h;exact⟨fun _=>⟨trivial,by simp⟩,rfl,fun e' _ _ j x hj=>by simp at hj⟩
 |cons c cs ih =>
  intro nn ds as h m hrep us hu;cases us with
  |nil=>exact hu.elim
  |cons u us =>
   unfold V0 at h;split at h
   ·rename_i d1 y hd;split at h
    ·rename_i r hr;obtain⟨r1,r2⟩:=r;simp only[Option.some.injEq,Prod.mk.injEq]at h;obtain⟨rfl,rfl⟩:=h;obtain⟨g1,g3,g4⟩:=Vg (T:=T) hd hrep (u:=u) (show V.rel m Y.nv Y.al (.one c) u from hu.1);have tl:=ih _ _ _ hr hrep hu.2;refine⟨fun hn=>⟨Q5 _ _ _ _ (g1 hn).1 fun e1 he1 _=>?_,?_⟩,by simp[tl.2.1],fun e2 he2 ht2=>?_⟩
     ·have hx:MExt m Y.nv Y.al {m with env:=e1 } Y.nv Y.al:=⟨fun i hi=>he1 i (by omega),fun _ _=>rfl,rfl,fun _ _=>rfl,Nat.le_refl _,fun _ h=>h⟩
      exact((ih _ _ _ hr (hrep.names e1 (fun i hi=>he1 i (by omega)) Y.nv (Nat.le_refl _)) (hu.2.mono hx)).1 (by show Y.nv<=_;omega)).1
     ·intro x hx;rcases Mh.1 hx with rfl|hx
      ·exact A.Xar ((g1 hn).2 x (by simp)) (by simp)
      ·exact A.Xar ((tl.1 (by omega)).2 x hx) (by simp;omega)
     ·rw[Told.append]at ht2;obtain⟨h1,h2⟩:=g4 e2 he2 ht2.1;have h3:=tl.2.2 e2 he2 ht2.2;intro j x hj;cases j with
      |zero =>
       simp at hj;subst hj;exact⟨h1.1,u,rfl,h2⟩
      |succ j=>simpa using h3 j x (by simpa using hj)
    ·cases h
   ·cases h
theorem Zbt{v:V}{nn:Nat}{ds:Defs}{as:List A}(h:Qfb Y nn v=some (ds,as)){m:M}(hrep:Rep w0 m Y a w){u:Value}(hu:v.rel m Y.nv Y.al u) :
  (Y.nv<=nn->Zf T m.env nn ds/\(∀a∈as,a.ok (nn+ds.length)))/\as.length=1 /\
  ∀e',(∀i,i<Y.nv->e' i=m.env i)->Told T e' nn ds->Xq [.lst .byt] (as.map (·.ev e'))/\Sh.rel w (as.map (·.ev e')) .ll u:=by
 unfold Qfb at h;split at h
 ·rename_i x;cases h;obtain⟨b1,b2,b3⟩:=(show C.rel m Y.nv Y.al (.ll x) u from hu)
  refine⟨fun hn=>⟨trivial,fun y hx=>?_⟩,rfl,fun e' he _=>?_⟩
  ·rw[Me.1 hx];exact A.Xar b1.1 (by simpa using hn)
  ·simp only[Mn,M7,Xq,Sh.rel,Lq];rw[A.Xaq b1.1 he];rw[hrep.base]at b2;exact⟨⟨b2.1,trivial⟩,b2.up hrep.below⟩
 ·cases h;have hu:u=.slice none 0 0:=hu;refine⟨fun _=>⟨trivial,fun x hx=>by rw[Me.1 hx];trivial⟩,rfl,fun e' _ _=>?_⟩;simp only[Mn,M7,Xq,Sh.rel,Lq,A.ev,Qv];exact⟨⟨⟨by simp,by simp⟩,trivial⟩,⟨by simp,by simp⟩,.inl ⟨hu,rfl⟩⟩
 ·rename_i id off n c;split at h
  ·cases h
  ·rename_i b hb;split at h
   ·rename_i hcond;simp only[Oo,decide_eq_true_eq]at hcond;obtain⟨⟨⟨hn0,hnc⟩,hn2⟩,hlen⟩:=hcond;split at h
    ·rename_i r htk;obtain⟨ds',as'⟩:=r;cases h;obtain⟨vs,hvl,hr,hc⟩:=hrep.reads hb off n hlen;have hu:Y.al id=true/\u=.slice (some (m.at id off)) n c:=hu;obtain⟨g1,g3,g4⟩:=Zd7 (T:=T) _ _ _ _ htk hrep hr;have g3:as'.length=n:=by rw[g3,O6];omega
     have Jd:∀e',(∀i,i<Y.nv->e' i=m.env i)->Told T e' nn ds'->Qa2 w u (as'.map (·.ev e')):=fun e' he ht=>by
      have v1:=g4 e' he ht;have hl:(as'.map (·.ev e')).length=n:=by rw[O8,g3]
      refine⟨⟨by rw[hl];omega,fun z hz=>?_⟩,.inr ⟨m.at id off,c,by rw[hl];exact hu.2,?_,by rw[hl];exact hnc,fun j x hj=>?_⟩⟩
      ·obtain⟨x,hx,rfl⟩:=Mx.1 hz;obtain⟨j,hj⟩:=Ht.1 hx;exact(v1 j x hj).1
      ·have hpos:0<vs.length:=by rw[hvl];exact hn0
       exact Qac (hc 0 _ (O1 hpos))
      ·rw[M2]at hj;obtain⟨y,hy,rfl⟩:=Option.map_eq_some_iff.1 hj;obtain⟨_,u',k1,k2⟩:=v1 j y hy;exact⟨u',hc j u' k1,k2⟩
     refine⟨fun hn=>⟨Q5 _ _ _ _ (g1 hn).1 fun e1 he1 ht1=>⟨⟨trivial,(g1 hn).2⟩,?_,trivial⟩,?_⟩,rfl,fun e' he ht=>?_⟩
     ·simp only[KK.has,D.ev,A.ev,Qv,Qu,Ox];exact(Jd e1 (fun i hi=>he1 i (by omega)) ht1).1
     ·intro x hx;rw[Me.1 hx];show nn+ds'.length<nn+(ds'++_).length;simp
     ·obtain⟨t1,t2⟩:=Told.append.1 ht;have h0:=(t2 0 _ _ rfl).1;simp only[Mk,D.ev,A.ev,Qv,Ox]at h0;have f2:=Jd e' he t1;simp only[Mn,M7,Xq,Sh.rel,Lq,A.ev,h0,Qu];exact⟨⟨f2.1,trivial⟩,f2⟩
    ·cases h
   ·cases h
 ·cases h
theorem Qxd{s:Sh}{v:V}{nn:Nat}{ds:Defs}{as:List A}(h:Wz Y nn s v=some (ds,as)){m:M}(hrep:Rep w0 m Y a w){u:Value}(hu:v.rel m Y.nv Y.al u) :
  (Y.nv<=nn->Zf T m.env nn ds/\(∀a∈as,a.ok (nn+ds.length)))/\as.length=Qs s.leaves /\
  ∀e',(∀i,i<Y.nv->e' i=m.env i)->Told T e' nn ds->Xq s.leaves (as.map (·.ev e'))/\s.rel w (as.map (·.ev e')) u:=by
 cases s with
 |ll=>exact Zbt h hrep hu
 |_=>exact Vg h hrep hu
theorem Qav:∀(ss:List Sh) (vs:List V) (nn:Nat) (ds:Defs) (as:List A),Yx Y nn ss vs=some (ds,as)->∀ {m:M},Rep w0 m Y a w->∀ {us:List Value},Zi m Y.nv Y.al vs us ->
  (Y.nv<=nn->Zf T m.env nn ds/\(∀a∈as,a.ok (nn+ds.length))) /\
  ∀e',(∀i,i<Y.nv->e' i=m.env i)->Told T e' nn ds->J4 w ss (as.map (·.ev e')) us:=by
 intro ss
 induction ss with
 |nil =>
  intro vs nn ds as h m _ us hu;unfold Yx at h;split at h
  ·cases h
   match us,hu with
   |[],_=>exact⟨fun _=>⟨trivial,by simp⟩,fun e' _ _=>⟨rfl,rfl⟩⟩
  ·simp_all
  ·cases h
 |cons s ss ih =>
  intro vs nn ds as h m hrep us hu;unfold Yx at h;split at h
  ·simp_all
  ·rename_i s' ss' v vs' hss;simp only[List.cons.injEq]at hss;obtain⟨rfl,rfl⟩:=hss;split at h
   ·cases h
   ·rename_i d hd;obtain⟨d1,d2⟩:=d;simp only at h;split at h
    ·cases h
    ·rename_i r hr;obtain⟨r1,r2⟩:=r;simp at h;obtain⟨rfl,rfl⟩:=h
     match us,hu with
     |u::us,hu =>
      obtain⟨g1,g3,g4⟩:=Qxd (T:=T) hd hrep hu.1;have tl:=ih _ _ _ _ hr hrep hu.2;refine⟨fun hn=>⟨Q5 _ _ _ _ (g1 hn).1 fun e1 he1 _=>?_,?_⟩,fun e2 he2 ht2=>?_⟩
      ·have hx:MExt m Y.nv Y.al {m with env:=e1 } Y.nv Y.al:=⟨fun i hi=>he1 i (by omega),fun _ _=>rfl,rfl,fun _ _=>rfl,Nat.le_refl _,fun _ h=>h⟩
       exact((ih _ _ _ _ hr (hrep.names e1 (fun i hi=>he1 i (by omega)) Y.nv (Nat.le_refl _)) (hu.2.mono hx)).1 (by show Y.nv<=_;omega)).1
      ·intro x hx;rcases L5.1 hx with hx|hx
       ·exact A.Xar ((g1 hn).2 x hx) (by simp)
       ·exact A.Xar ((tl.1 (by omega)).2 x hx) (by simp;omega)
      ·rw[Told.append]at ht2;obtain⟨h1,h2⟩:=g4 e2 he2 ht2.1;have h3:=tl.2 e2 he2 ht2.2;have e1:(List.map (fun x=>A.ev e2 x) d2++List.map (fun x=>A.ev e2 x) r2).take (Qs s.leaves)=List.map (fun x=>A.ev e2 x) d2:=by
        rw[List.take_append_of_le_length (by simp[g3]),Mg (by simp[g3])]
       have e2':(List.map (fun x=>A.ev e2 x) d2++List.map (fun x=>A.ev e2 x) r2).drop (Qs s.leaves)=List.map (fun x=>A.ev e2 x) r2:=by
        rw[List.drop_append_of_le_length (by simp[g3]),Kp (by simp[g3])];rfl
       simp only[Kq,J4,e1,e2'];exact⟨h1,h2,h3⟩
  ·cases h
end
end Go.Sx

namespace Go.Sx
open Go Go.ChangeShapes Go.WideShapes Go.RowKit
variable {H:Type}{enc':TypeId×Value->H}{P:Program}{w:World}{base:Nat}{spare:Nat->Bool}{held:Bool}
theorem Zev{a:Int}(wa:(Lit.int .i64 a).wf=true):has .i64 a:=by
 simp[Lit.wf]at wa;have q1:IntKind.i64.min=-9223372036854775808:=by decide +kernel
 have q2:IntKind.i64.max=9223372036854775807:=by decide +kernel
 have l:lo .i64=-9223372036854775808:=by decide +kernel
 have h:hi .i64=9223372036854775807:=by decide +kernel
 simp only[has,l,h];omega
end Go.Sx
namespace Go.Sx
open Go Go.ChangeShapes Go.WideShapes Go.RowKit
variable {H:Type}{enc':TypeId×Value->H}{P:Program}{w:World}{base:Nat}{spare:Nat->Bool}{held:Bool}
theorem Znd(l:List Int):flat (.int .u8) l=l.map (Value.int .u8):=by
 unfold flat
 induction l with
 |nil=>rfl
 |cons z l ih=>rw[Km,ih];rfl
theorem Zm1{a:Int}(wa:(Lit.int .u8 a).wf=true):has .u8 a:=by
 have:=bounds_u8 wa;have l:lo .u8=0:=by decide +kernel
 have h:hi .u8=255:=by decide +kernel
 simp only[has,l,h];omega
end Go.Sx
namespace Go.Sx
open Go Go.ChangeShapes Go.WideShapes Go.RowKit
variable {H:Type}{enc':TypeId×Value->H}{P:Program}{w:World}{base:Nat}{spare:Nat->Bool}{held:Bool}
theorem Qq5{t e:TypeId}(ht:P.underlying t=some (.slice e))(he:P.underlying e=some (.int .u8))(hce:P.cellsOf e=1)
  {fuel:Nat} {v:Value} {x:DataW H×List MemPlace} (hf:DataW.trod enc' P w base spare held fuel t [v]=some x):∃l:List Int,(LK.int .u8).hasL l/\RoRow w w (.int .u8) v l:=by
 rcases Deep.open_slice ht hf with⟨h,_⟩|⟨a',len,cap,m,n,D,Pl,h,hb,hlc,hcm,hm,_,hel⟩
 ·have h':v=.slice none 0 0:=by simpa using h
  subst h';exact⟨[],⟨by simp,fun z hz=>by cases hz⟩,.inl ⟨rfl,rfl⟩⟩
 ·have h':v=.slice (some a') len cap:=by simpa using h
  subst h';have hmle:len<=m:=by rw[hm];split <;> omega
  obtain⟨f,hfn⟩:=Deep.choose_lt (n:=len) (p:=fun i (x:Int)=>has .u8 x/\w.cell? (a'.add i)=some (.int .u8 x)) (fun i hi=>by
   obtain⟨cs',h1,h2⟩:=hel i (by omega);rw[hce]at h1;obtain⟨_,hl1,hcell⟩:=World.cells?_some h1;obtain⟨z,rfl,_,wz⟩:=DataW.trod_int he h2;have h0:=hcell 0 (by omega);rw[Nat.mul_one]at h0;exact⟨z,Zm1 wz,h0⟩)
  refine⟨(List.range len).map f,⟨?_,?_⟩,.inr ⟨a',cap,by simp,?_,?_,?_⟩⟩
  ·have:maxLen=9223372036854775807:=by decide +kernel
   rw[O8,Hh];omega
  ·intro z hz;obtain⟨i,hi,rfl⟩:=Mx.1 hz;exact(hfn i (M3.1 hi)).1
  ·by_cases h0:len=0
   ·left;rw[h0];rfl
   ·right
    have:=Qac (hfn 0 (by omega)).2;exact this
  ·rw[O8,Hh];exact hlc
  ·intro j u hu;rw[Znd,List.map_map,M2]at hu;have hj:j<len:=by
    rcases Ha j len with h|h
    ·exact h
    ·rw[My (by simpa using h)]at hu;cases hu
   rw[List.getElem?_range hj]at hu;simp only[L4,Function.comp,Option.some.injEq]at hu;rw[<- hu];exact(hfn j hj).2
theorem Zo3{t e e':TypeId}(ht:P.underlying t=some (.slice e))(hte:P.underlying e=some (.slice e'))(he:P.underlying e'=some (.int .u8))(hce:P.cellsOf e=1)(hce':P.cellsOf e'=1)
  {r:Reach} {b0:Nat} {v:Value} {d:DataW H} {p:List MemPlace} (hval:Value.okWide P w r b0 t v) (hd:DataW.Trod enc' P w base spare held t v d p) :
  ∃l:List Int,Qa2 w v l:=by
 obtain⟨a,len,cap,rfl⟩:=okWide_slice ht hval;obtain⟨fuel,hf⟩:=hd;rcases Deep.open_slice ht hf with⟨h,_⟩|⟨a',len',cap',m,n,D,Pl,h,hb,hlc,hcm,hm,_,hel⟩
 ·have h':(Value.slice a len cap)=.slice none 0 0:=by simpa[Value.cells]using h
  cases h';exact⟨[],⟨by simp,fun z hz=>by cases hz⟩,.inl ⟨rfl,rfl⟩⟩
 ·have h':(Value.slice a len cap)=.slice (some a') len' cap':=by simpa[Value.cells]using h
  cases h';have hblk:a'.block<w.heap.size:=by
   simp only[Value.okWide,ht,Cell.okWide,Cell.ok]at hval;obtain⟨_,_,_,_,row,cells,hs,_⟩:=hval;unfold World.shape? at hs;cases hh:w.heap[a'.block]? with
   |none=>rw[hh]at hs;simp at hs
   |some o=>exact(L9.1 hh).1
  have hmle:len<=m:=by rw[hm];split <;> omega
  obtain⟨f,hfn⟩:=Deep.choose_lt (n:=len) (p:=fun i (x:List Int)=>(LK.int .u8).hasL x/\∃u,w.cell? (a'.add i)=some u/\RoRow w w (.int .u8) u x) (fun i hi=>by
   obtain⟨cs',h1,h2⟩:=hel i (by omega);rw[hce]at h1;obtain⟨_,hl1,hcell⟩:=World.cells?_some h1;have h0:=hcell 0 (by omega);rw[Nat.mul_one]at h0
   match cs',hl1,h2,h0 with
   |[u],_,h2,h0 =>
    obtain⟨l,k1,k2⟩:=Qq5 hte he hce' h2;exact⟨l,k1,u,h0,k2⟩)
  refine⟨(List.range len).map fun i=>enc (f i),⟨?_,?_⟩,.inr ⟨a',cap,by simp,hblk,?_,?_⟩⟩
  ·have:maxLen=9223372036854775807:=by decide +kernel
   rw[O8,Hh];omega
  ·intro z hz;obtain⟨i,hi,rfl⟩:=Mx.1 hz;have:=(hfn i (M3.1 hi)).1;show(dec (enc (f i))).length<=9223372036854775807/\∀z∈dec (enc (f i)),Sx.has .u8 z;rw[Qu];exact this
  ·rw[O8,Hh];exact hlc
  ·intro j x hx;rw[M2]at hx;have hj:j<len:=by
    rcases Ha j len with h|h
    ·exact h
    ·rw[My (by simpa using h)]at hx;cases hx
   rw[List.getElem?_range hj]at hx;simp only[L4,Option.some.injEq]at hx;obtain⟨_,u,k1,k2⟩:=hfn j hj;refine⟨u,k1,?_⟩;rw[<- hx,Qu];exact k2
end Go.Sx
namespace Go.Sx
open Go Go.RowKit
theorem Zdl{k:LK}{x:Int}(hk:∀l ls,k≠.tup l ls):Z2 [k.leaf] [x]=k.Xa9 x:=by
 cases k with
 |num=>simp[LK.leaf,Z2,LK.Xa9]
 |int k=>simp[LK.leaf,Z2,LK.Xa9]
 |tup l ls=>exact absurd rfl (hk l ls)
 |byt=>rfl
theorem LL.Xbf(l:LL)(x:Int):∀u∈l.Xa9 x,u.oneCell'=true:=by
 cases l with
 |num=>intro u hu;simp only[LL.Xa9,Jw,Mx]at hu;obtain⟨j,_,rfl⟩:=hu;rfl
 |int k=>intro u hu;simp only[LL.Xa9,Me]at hu;subst hu;rfl
 |bit=>intro u hu;simp only[LL.Xa9,Me]at hu;subst hu;rfl
theorem Qjz:∀(ls:List LL) (xs:List Int),∀u∈Va ls xs,u.oneCell'=true
 |[],_,u,hu=>by cases hu
 |l::ls,xs,u,hu=>by
  rcases L5.1 hu with hu|hu
  ·exact LL.Xbf l _ u hu
  ·exact Qjz ls _ u hu
theorem Xbf(k:LK)(x:Int):∀u∈k.Xa9 x,u.oneCell'=true:=by
 cases k with
 |num=>intro u hu;simp only[LK.Xa9,Jw,Mx]at hu;obtain⟨j,_,rfl⟩:=hu;rfl
 |int k=>intro u hu;simp only[LK.Xa9,Me]at hu;subst hu;rfl
 |tup l ls=>exact Qjz (l::ls) _
 |byt=>intro u hu;simp only[LK.Xa9,Me]at hu;subst hu;rfl
theorem Qcf(k:LK)(x:Int)(l:List Int):flat k (x::l)=k.Xa9 x++flat k l:=rfl
theorem Qs1(k:LK):∀(l:List Int) (i:Nat) (y:Int),i<l.length->flat k (l.set i y)=(flat k l).take (i*k.sz)++k.Xa9 y++(flat k l).drop (i*k.sz+k.sz)
 |[],i,y,h=>by simp at h
 |x::l,0,y,_=>by
  rw[List.set_cons_zero,Qcf,Qcf,Nat.zero_mul,M5,List.take_zero,Ox,<- Xay k x,List.drop_left]
 |x::l,i+1,y,h=>by
  have hi:=Qs1 k l i y (by simpa using h);rw[List.set_cons_succ,Qcf,hi,Qcf];have e1:(i+1)*k.sz=(k.Xa9 x).length+i*k.sz:=by rw[Xay,K8];omega
  rw[e1,Kn,List.take_length_add_append,List.drop_length_add_append];simp[M8]
theorem Zgm{α:Type}{c vs:List α}{off n:Nat}(h:off+vs.length<=n):(c.take off++vs++c.drop (off+vs.length)).take n=(c.take n).take off++vs++(c.take n).drop (off+vs.length):=by
 by_cases hc:off<=c.length
 ·rw[M8,List.take_append,List.take_append,Mg (l:=c.take off) (by rw[O6];omega),Mg (l:=vs) (by rw[O6];omega),
   List.take_take,Hw (by omega),M8,O6,Hw hc,List.drop_take,Nat.sub_sub]
 ·have hc':c.length<=off:=by omega
  rw[Mg hc',Kp (by omega),Oaf,Mg (l:=c++vs) (by rw[O2];omega),Mg (l:=c.take n) (by rw[O6];omega),
   Mg (l:=c) (by omega),Kp (by omega),Oaf]
section
variable {P:Program}{T:List K}{w0:World}{m:M}{Y:St}{a:Act}{w:World}{o:Oper}{nn nid:Nat}{p:Plan}
theorem Zmx(l:List Int):flat (.int .u8) l=l.map (Value.int .u8):=by
 induction l with
 |nil=>rfl
 |cons x l ih=>simp only[flat,Km,Mn]at *;rw[ih];rfl
theorem Qvq{k:LK}{v:V}{ds:Defs}{y:A}(ht:takeSh Y nn (.lst k) v=some (ds,[y]))(h:Rep w0 m Y a w)(hd:Zl T m.env Y.nv nn ds){u:Value}(hu:v.rel m Y.nv Y.al u):y.wf Y.nv m.env:=by
 have hlt:=hd.1;cases v with
 |agg cs=>cases ht
 |one c =>
  cases c with
  |sl id =>
   simp only[takeSh]at ht;split at ht
   ·rename_i r hr;split at ht
    ·cases ht;exact(h.Xav hr).2.1
    ·cases ht
   ·cases ht
  |nilslice=>cases ht;exact⟨trivial,trivial⟩
  |rol x =>
   simp only[takeSh]at ht;split at ht
   ·cases ht;exact(show C.rel m Y.nv Y.al (.rol y) u from hu).1
   ·cases ht
  |slv id lo hi k' =>
   simp only[takeSh]at ht;split at ht
   ·split at ht
    ·cases ht;simp only[Ov,O5]at hlt;exact⟨by show nn<Y.nv;omega,trivial⟩
    ·cases ht
   ·cases ht
  |slice id off n c =>
   simp only[takeSh]at ht;split at ht
   ·cases ht
   ·split at ht
    ·split at ht
     ·cases ht;simp only[O2,Ov,O5]at hlt;exact⟨by show nn+_<Y.nv;omega,trivial⟩
     ·cases ht
    ·cases ht
  |slS id off hi n =>
   simp only[takeSh]at ht;split at ht
   ·cases ht
   ·split at ht
    ·split at ht
     ·cases ht;simp only[O2,Ov,O5]at hlt;exact⟨by show nn+_<Y.nv;omega,trivial⟩
     ·cases ht
    ·cases ht
  |_=>cases ht
theorem Qon{s d:TypeId}{x:Operand}(h:Rep w0 m Y a w)(ho:o.op=.convert s d x)(hm:Qbk P Y s d x=none)(hp:Qy P T Y nn nid o.op=.ok p)(hd:Zl T m.env Y.nv nn p.defs):Zt P m Y a w o p.val:=by
 rw[ho]at hp;simp only[Qy,hm]at hp;split at hp
 ·rename_i ds k k' y hs hu hx;have h1:=h.cell hx;have key:(execOp a.eval o).run P w=.ok (.value (.int k (wr k (y.ev m.env)))) w:=by
   simp only[execOp,ho,h1.2.2,convert];simp[run_underlying hs,run_underlying hu,Conv.intToInt,Qtp]
  split at hp
  ·rename_i hk;cases hp;have h2:=Qtf hk h1.2.1;rw[Qj7 h2]at key;exact⟨_,key,h1.1,h2,rfl⟩
  ·obtain⟨z,hz,hk,he⟩:=Qal hp hd;rw[hz];refine⟨_,key,hk,by rw[he];exact W7 _ _,?_⟩;rw[he];rfl
 ·rename_i e c hs hu hx;have h1:=h.cell hx;split at hp
  ·rename_i ds y he htk;cases hp;obtain⟨_,g3,g4⟩:=Vg (T:=T) htk h (u:=a.eval x) h1;obtain⟨f1,f2⟩:=g4 m.env (fun _ _=>rfl) hd.2;have f1:(LK.int .u8).hasL (dec (y.ev m.env)):=f1.1;have f2:RoRow w w (.int .u8) (a.eval x) (dec (y.ev m.env)):=f2;have wy:=Qvq htk h hd (u:=a.eval x) h1;refine⟨.string (strOfNums (dec (y.ev m.env))),?_,wy,f1,rfl⟩;generalize dec (y.ev m.env)=l at *
   rcases f2 with⟨k1,k2⟩|⟨ad,cap,k1,_,k3,k4⟩
   ·simp only[execOp,ho,k1];rw[k2];simp[run_convert_bytes_nil w s e hs he 0 0 d hu,strOfNums];rfl
   ·have hl:(loadCells ad l.length).run P w=.ok (l.map (Value.int .u8)).toArray w:=by
     have:=run_loadCells_list (P:=P) w ad (l.map (Value.int .u8)) (fun j v hj=>k4 j v (by rw[Zmx];exact hj));rwa[O8]at this
    simp only[execOp,ho,k1];simp[run_convert_bytes_string w s d e (some ad) l.length cap hs he hu,run_bytesToString w ad l.length cap l hl,foldl_push_bytes,strOfNums]
  ·cases hp
 ·cases hp
theorem List.Xbo{k:IntKind}(l:List Int)(q:Nat)(x:Int):(l.map (Value.int k)).set q (.int k x)=(l.set q x).map (Value.int k):=by
 rw[List.map_set]
theorem W6{s d:TypeId}{x:Operand}{p:Plan}(hm:Qbk P Y s d x=some p):∃id n n' b e,d=s/\P.underlying s=some (.slice e)/\P.underlying e=some (.int .u8)/\Y.cell x=some (.slice id 0 n n')/\Y.box id=some b/\b.own=true/\b.fz=(0,0)/\b.cells.length=n/\p={val:=.vl (.one (.slice id 0 n n')),eff:=.wr id .mark }:=by
 unfold Qbk at hm;split at hm
 ·rename_i hsd;have hsd:s=d:=by simpa using hsd
  subst hsd;split at hm
  ·rename_i e id n n' hu hx;split at hm
   ·rename_i b he hb;split at hm
    ·rename_i hc;simp only[Oo,beq_iff_eq]at hc;obtain⟨⟨⟨c1,c2⟩,c3⟩,c4⟩:=hc;cases hm;exact⟨id,n,n',b,e,rfl,hu,he,hx,hb,c1,c2,c4,rfl⟩
    ·cases hm
   ·cases hm
  ·cases hm
 ·cases hm
theorem Zlj{s d:TypeId}{x:Operand}{p:Plan}(h:Rep w0 m Y a w)(ho:o.op=.convert s d x)(hm:Qbk P Y s d x=some p) :
  ∃(id:Nat) (b:Box) (w':World) (c:C) (v:Value),p.val=.vl (.one c)/\p.eff=.wr id .mark/\Y.boxes[id]?=some (some b)/\(execOp a.eval o).run P w=.ok (.value v) w'/\c.rel m Y.nv Y.al v/\Rep w0 m (Y.Xas id (b.upd .mark)) a w':=by
 obtain⟨id,n,n',b,e,rfl,hu,he,hx,hb,c1,c2,c3,rfl⟩:=W6 hm;have h1:=h.cell hx;obtain⟨hz,hge,us,hus,hrels⟩:=h.own id b (Zu hb) c1;rw[c2]at hus;have hl:=Rels.length hrels
 let f:Obj->Obj:=fun|.cells c elem (lo,hi)=>.cells c elem (if lo==hi then(us.length,us.length+1)else(min lo us.length,max hi (us.length+1)))|o=>o
 refine⟨id,b,{w with heap:=w.heap.modify (m.rho id).1 f },_,_,rfl,rfl,Zu hb,?_,h1,h.mark (f:=f) (Zu hb) c1 hus hl.symm (by simp[f])⟩;have had:m.at id 0=⟨(m.rho id).1,0,none⟩:=by simp[M.at,hz]
 have hsh:w.shape? (m.rho id).1=some (b.elem,us.length):=by
  unfold World.shape?;rw[hus];simp
 simp only[execOp,ho,h1.2,had];have hfr:w.freeze ⟨(m.rho id).1,us.length,none⟩ 1={w with heap:=w.heap.modify (m.rho id).1 f }:=by
  unfold World.freeze;rw[if_neg (by decide)];rfl
 simp[convert,run_underlying hu,run_underlying he,markStringish,hsh];exact hfr
def Zs5(P:Program)(w0:World)(m:M)(Y:St)(a:Act)(w:World)(o:Oper)(p:Plan):Prop :=
 ∃(id:Nat) (u:Upd) (b:Box) (w':World),p.val=.tup []/\p.eff=.wr id u/\Y.boxes[id]?=some (some b)/\(execOp a.eval o).run P w=.ok .skip w'/\Rep w0 m (Y.Xas id (b.upd u)) a w'
theorem Qp7{t:TypeId}{x y:Operand}(h:Rep w0 m Y a w)(ho:o.op=.store t x y)(hp:Qy P T Y nn nid o.op=.ok p)(hD:Zl T m.env Y.nv nn p.defs) :
  Zs5 P w0 m Y a w o p:=by
 rw[ho]at hp;simp only[Qy]at hp;split at hp
 ·rename_i id off v hx hy;have h1:=h.cell hx;split at hp
  ·rename_i b n hb hn;split at hp
   ·rename_i hc;simp only[Oo,decide_eq_true_eq,beq_iff_eq]at hc;obtain⟨⟨⟨⟨hc1,hcf⟩,hc2⟩,hc3⟩,hc4⟩:=hc;cases hp;obtain⟨vs,g1,g2,g3⟩:=V.Xa0 (h.v_ hy) hc3;obtain⟨hz,_,us,hus,hrels⟩:=h.own id b (Zu hb) hc1;rw[hcf]at hus;refine⟨id,_,b,_,rfl,rfl,Zu hb,?_,h.wr (off:=off) (Zu hb) hc1 hus g2⟩;have hl:=Rels.length g2;have hlu:=Rels.length hrels;have hst:=run_storeCells_at P (m.rho id).1 off b.elem vs 0 us.toArray w hus (by simp;omega) g3;have had:(m.at id off)=⟨(m.rho id).1,off,none⟩:=by simp[M.at,hz]
    simp only[execOp,ho,h1.2,Instr.storeAt,Instr.sureAddr,had];have hsz:¬(a.eval y).cells.size≠n:=by rw[g1];simp;omega
    simp only[storeVar,Sem.run_bind,Sem.run_pure,Result.andThen_ok,run_sizeOf hn];rw[if_neg hsz,g1];simp only[Mk]at hst;simp[hst]
   ·cases hp
  ·cases hp
 ·rename_i id off i n k x' hx hy;obtain⟨h1a,h1b,h1c,h1d⟩:=h.cell hx;have h2:C.rel m Y.nv Y.al (.int k x') (a.eval y):=h.v_ hy;split at hp
  ·rename_i b hb hn;split at hp
   ·rename_i r hr;split at hp
    ·rename_i hc;simp only[Oo,beq_iff_eq]at hc;obtain⟨⟨⟨hc1,hcf⟩,hc2⟩,hc3⟩:=hc;have hcs:=Ug hr;obtain⟨hz,_,us,hus,hrels⟩:=h.own id b (Zu hb) hc1;rw[hcf]at hus;have hlu:=Rels.length hrels;have hen:off+n<=us.length∨n=0:=by
      have:=congrArg List.length hcs;rw[O8,hc2,O6,Mp]at this;omega
     have hen:off+n<=us.length:=by omega
     have hsub:Rels m Y.nv Y.al (r.2.map (.int r.1)) ((us.drop off).take n):=by rw[<- hcs];exact(hrels.drop off).take n
     obtain⟨q,hq⟩:=Oz h1c.1;have hqn:q<n:=by omega
     have hkk:r.1=k:=hc3;subst hkk;have hv:(a.eval y).cells=#[.int r.1 (x'.ev m.env)]:=by rw[h2.2.2];rfl
     split at hp
     ·cases hp;refine⟨id,_,b,_,rfl,rfl,Zu hb,?_,h.wr (off:=off) (vs:=((us.drop off).take n).set q (.int r.1 (x'.ev m.env))) (Zu hb) hc1 hus ?_⟩
      rotate_left
      ·refine Rels.Xbt (by rw[Qns];simp;omega) fun j c hj=>?_
       obtain⟨hjn,rfl⟩:=Qmn _ _ _ _ _ hj;have hdj:(Qcz r.1 i x' r.2 0)[j]?=some (.int r.1,.put i j x' (r.2[j]'(by omega))):=by
        rw[Qnz,O1 (by omega)];simp
       have he:=Zl.snd (i:=j) hD hdj;simp only[D.ev,hq]at he;obtain⟨g1,g2⟩:=Qxb hsub (i:=j) (by omega);have hgd:(r.2.map (·.ev m.env)).getD j 0=(r.2[j]'(by omega)).ev m.env:=by simp[Ou,hc2,hjn]
       rw[hgd]at g1 g2;have hnv:nn+j<Y.nv:=by have:=hD.1;simp only[Qmb,hc2]at this;omega
       by_cases hqj:q=j
       ·subst hqj;simp only[if_true]at he;refine⟨_,Ls (by simp;omega),⟨hnv,trivial⟩,?_,?_⟩
        ·simp only[A.ev,he];exact h2.2.1
        ·simp only[A.ev,he]
       ·rw[if_neg (by omega)]at he;refine⟨_,by rw[O7 hqj];exact g2,⟨hnv,trivial⟩,?_,?_⟩
        ·simp only[A.ev,he];exact g1
        ·simp only[A.ev,he]
      ·have hst:=run_storeCells_at P (m.rho id).1 (off+q) b.elem [.int r.1 (x'.ev m.env)] 0 us.toArray w hus (by simp;omega) (by simp[Value.oneCell']);have had:(m.at id (off+(i.ev m.env).toNat))=⟨(m.rho id).1,off+q,none⟩:=by simp[M.at,hz,hq]
       simp only[execOp,ho,h1d,Instr.storeAt,Instr.sureAddr,had];have hsz:¬(a.eval y).cells.size≠1:=by rw[hv];simp
       simp only[storeVar,Sem.run_bind,Sem.run_pure,Result.andThen_ok,run_sizeOf hn];rw[if_neg hsz,hv,<- Qzf hqn hen];simp only[Mk]at hst;simp[hst]
     ·split at hp
      ·cases hp
      ·rename_i h16 h1024;cases hp;refine⟨id,_,b,_,rfl,rfl,Zu hb,?_,h.wr (off:=off) (vs:=((us.drop off).take n).set q (.int r.1 (x'.ev m.env))) (Zu hb) hc1 hus ?_⟩
       rotate_left
       ·obtain⟨e1,e2⟩:=Qbg hsub;obtain⟨f1,f2,f3⟩:=Qqd (T:=T) (nn:=nn) hsub (by omega);obtain⟨t1,t2⟩:=Told.append.1 hD.2;have f4:=f3 m.env (fun _ _=>rfl) t1;have f5:=(t2 0 _ _ rfl).1;simp only[Mk,D.ev,f4,hq,Mi]at f5;rw[e1,List.Xbo];have hD1:=hD.1;simp only[O2,Ov,O5]at hD1;have:=Qlm (m:=m) (nv:=Y.nv) (al:=Y.al) (k:=r.1) (n:=n) f5 (by
         rw[Qu];refine⟨by rw[Md,O8,hc2];omega,fun z hz=>?_⟩;rcases Hu hz with hz|rfl
         ·obtain⟨x,hx,rfl⟩:=Mx.1 hz;exact(e2 x hx).2
         ·exact h2.2.1) (by rw[Qu,Md,O8,hc2]) (by omega)
        rw[Qu]at this;exact this
       ·have hst:=run_storeCells_at P (m.rho id).1 (off+q) b.elem [.int r.1 (x'.ev m.env)] 0 us.toArray w hus (by simp;omega) (by simp[Value.oneCell']);have had:(m.at id (off+(i.ev m.env).toNat))=⟨(m.rho id).1,off+q,none⟩:=by simp[M.at,hz,hq]
        simp only[execOp,ho,h1d,Instr.storeAt,Instr.sureAddr,had];have hsz:¬(a.eval y).cells.size≠1:=by rw[hv];simp
        simp only[storeVar,Sem.run_bind,Sem.run_pure,Result.andThen_ok,run_sizeOf hn];rw[if_neg hsz,hv,<- Qzf hqn hen];simp only[Mk]at hst;simp[hst]
    ·cases hp
   ·cases hp
  ·cases hp
 ·rename_i id i k v hx hy;obtain⟨h1a,h1c,h1d,h1e⟩:=h.cell hx;split at hp
  ·rename_i r s hr hs;split at hp
   ·rename_i hc;simp only[Oo,beq_iff_eq]at hc;obtain⟨⟨⟨hc1,hc2⟩,hc3⟩,hc4⟩:=hc;have hk:=Zx hc2;subst hk;subst hc3;split at hp
    ·rename_i ds yy htk;cases hp;obtain⟨q1,q2,q5,q6,q3⟩:=h.Xav hr;obtain⟨b,hb,hbr⟩:=Qdz hr;obtain⟨vs,g1,g2,g3⟩:=V.Xa0 (h.v_ hy) hc4;obtain⟨k1,k3⟩:=Qe1 (T:=T) htk m Y.nv vs g2;obtain⟨t1,t2⟩:=Told.append.1 hD.2;have t3:=t2 0 _ _ rfl;simp only[Mk,D.ev]at t3;obtain⟨v1,v2⟩:=k3 m.env (fun _ _=>rfl) t1;have hlt:nn+ds.length<Y.nv:=by have:=hD.1;simp only[O2,Ov,O5]at this;omega
     rw[q3.Xbh]at h1d;generalize hl:dec (r.x.ev m.env)=l at *
     generalize yy.ev m.env=z at *
     obtain⟨q,hq⟩:=Oz h1d.1;rw[hq]at h1d t3;simp only[Mi]at t3;have hql:q<l.length:=by omega
     have q4:=q3.2.1;rw[hc1]at q4;simp only[if_true]at q4;rcases q4.2 with⟨hv,hn⟩|⟨g,cap,cur,hv,hbase,hg,hc1',hc2',hc3',hc4'⟩
     ·omega
     have hvl:vs.length=r.k.sz:=by rw[<- v1,Xay]
     have hmul:q*r.k.sz+r.k.sz<=l.length*r.k.sz:=by
      rw[<- Nat.succ_mul];exact Ko _ hql
     have hmul2:l.length*r.k.sz<=cap*r.k.sz:=Ko _ hc1';have hst:=run_storeCells_at P g (q*r.k.sz) r.elem vs 0 cur w hg (by omega) g3;refine⟨id,.row (.v (nn+ds.length)),b,w.setRow g (cur.toList.take (q*r.k.sz)++vs++cur.toList.drop (q*r.k.sz+vs.length)).toArray,rfl,rfl,hb,?_,?_⟩
     ·have had:(Qhs (m.sv id)).add (q*r.k.sz)=⟨g,q*r.k.sz,none⟩:=by rw[hv];exact Zpu _ _
      rw[hq]at h1e;simp only[Mi]at h1e;simp only[execOp,ho,h1e,Instr.storeAt,Instr.sureAddr,had];have hsz:¬(a.eval y).cells.size≠r.k.sz:=by rw[g1];simp[hvl]
      simp only[storeVar,Sem.run_bind,Sem.run_pure,Result.andThen_ok,run_sizeOf hs];rw[if_neg hsz,g1];simp only[Mk]at hst;simp[hst]
     ·have hdec:dec (A.ev m.env (.v (nn+ds.length)))=l.set q z:=by simp only[A.ev,t3.1,Qu]
      refine h.Xb1 hb hbr hc1 (g:=g) (by rw[hv];rfl) ⟨hlt,trivial⟩ (by rw[hdec,hl,Md]) ?_;rw[hdec];refine⟨⟨by rw[Md];exact q3.1.1,fun x hx=>?_⟩,?_,q3.2.2⟩
      ·rcases Hu hx with h1|h1
       ·exact q3.1.2 x h1
       ·rw[h1];exact v2
      ·simp only[hc1,if_true];refine⟨Um _ _,.inr ⟨g,cap,_,by rw[Md];exact hv,hbase,setRow_heap w _ _ _ _ _ hg,by rw[Md];exact hc1',hc2',?_,?_⟩⟩
       ·simp only[List.size_toArray,O2,O6,Mp,K1];omega
       ·rw[Md,List.toList_toArray,Qs1 _ _ _ _ hql,v1,<- hc4',<- hvl];exact Zgm (by rw[hvl];omega)
    ·cases hp
   ·cases hp
  ·cases hp
 ·cases hp
end
theorem Qoq{m:M}{nv:Nat}{al:Nat->Bool}(c:C):C.rel m nv al (if Qwt c then c else .top) (Zf5 c):=by
 split
 ·rename_i h;unfold Qwt at h;split at h;all_goals (first|rfl|skip)
  ·exact⟨by simp,rfl⟩
  ·exact⟨⟨trivial,trivial⟩,Qjl h,rfl⟩
  ·rename_i n;simp at h;refine⟨⟨trivial,trivial⟩,?_,rfl⟩;simp only[A.ev];omega
  ·cases h
 ·trivial
section
variable {T:List K}{g:Nat}{X:K}{args:List A}
theorem Z9:∀(ls:List L) (nn j:Nat),(X1 g args nn j ls).1.length=Qs ls:=by
 intro ls
 induction ls with
 |nil=>intro nn j;rfl
 |cons l ls ih=>intro nn j;cases l <;> simp[X1,Qs,L.n,ih,H2]
theorem Zd1(hg:T[g]?=some X):∀(ls:List L) (nn j:Nat) (ys:List Int),(∀a∈args,a.ok nn)->Xq ls ys ->
  ∀e:Nat->Int,(∀(i:Nat) y,ys[i]?=some y->(X.sem (args.map (·.ev e))).getD (j+i) 0=y)->Zf T e nn (X1 g args nn j ls).1:=by
 intro ls
 induction ls with
 |nil=>intro nn j ys _ h e _;trivial
 |cons l ls ih =>
  intro nn j ys hok hh e hy;have tail:∀(x:Int) (ys:List Int),Xq ls ys->(∀(i:Nat) y,(x::ys)[i]?=some y->(X.sem (args.map (·.ev e))).getD (j+i) 0=y)->∀v:Int,Zf T (upd e nn v) (nn+1) (X1 g args (nn+1) (j+1) ls).1:=by
   intro x ys hls hyy v;have he:∀i,i<nn->upd e nn v i=e i:=fun i hi=>by simp[upd];omega
   exact ih (nn+1) (j+1) ys (fun a ha=>A.Xar (hok a ha) (by omega)) hls (upd e nn v) (fun i y hi=>by
    rw[X2 hok he];have:=hyy (i+1) y (by simpa using hi);rwa[show j+(i+1)=j+1+i by omega]at this)
  cases l with
  |cst c=>exact ih nn j ys hok hh e hy
  |int k=>cases ys with
   |nil=>cases hh
   |cons y ys =>
    have h0:=hy 0 y rfl;simp only[Mk]at h0;have hev:(D.app g j args).ev T e=y:=by simp only[D.ev,hg];exact h0
    exact⟨hok,by rw[hev];exact hh.1,by rw[hev];exact tail y ys hh.2 hy y⟩
  |bool=>cases ys with
   |nil=>cases hh
   |cons y ys =>
    have h0:=hy 0 y rfl;simp only[Mk]at h0;have hev:(D.app g j args).ev T e=y:=by simp only[D.ev,hg];exact h0
    exact⟨hok,by rw[hev];exact hh.1,by rw[hev];exact tail y ys hh.2 hy y⟩
  |num=>cases ys with
   |nil=>cases hh
   |cons y ys =>
    have h0:=hy 0 y rfl;simp only[Mk]at h0;have hev:(D.app g j args).ev T e=y:=by simp only[D.ev,hg];exact h0
    exact⟨hok,by rw[hev];exact hh.1,by rw[hev];exact tail y ys hh.2 hy y⟩
  |lst k=>cases ys with
   |nil=>cases hh
   |cons y ys =>
    have h0:=hy 0 y rfl;simp only[Mk]at h0;have hev:(D.app g j args).ev T e=y:=by simp only[D.ev,hg];exact h0
    exact⟨hok,by rw[hev];exact hh.1,by rw[hev];exact tail y ys hh.2 hy y⟩
  |arr k n=>cases ys with
   |nil=>cases hh
   |cons y ys =>
    have h0:=hy 0 y rfl;simp only[Mk]at h0;have hev:(D.app g j args).ev T e=y:=by simp only[D.ev,hg];exact h0
    exact⟨hok,by rw[hev];exact hh.1,by rw[hev];exact tail y ys hh.2 hy y⟩
theorem Zbz(hg:T[g]?=some X){m:M}{nv:Nat}{al:Nat->Bool}:∀(ls:List L) (nn j:Nat) (ys:List Int),Xq ls ys->(∀(i:Nat) y,ys[i]?=some y->(X.sem (args.map (·.ev m.env))).getD (j+i) 0=y) ->
  Told T m.env nn (X1 g args nn j ls).1->nn+Qs ls<=nv->Rels m nv al (X1 g args nn j ls).2 (Z2 ls ys):=by
 intro ls
 induction ls with
 |nil=>intro nn j ys _ _ _ _;trivial
 |cons l ls ih =>
  intro nn j ys hh hy ht hle
  have tail:∀(kk:KK) (y:Int) (ys:List Int),Xq ls ys->(∀(i:Nat) z,(y::ys)[i]?=some z->(X.sem (args.map (·.ev m.env))).getD (j+i) 0=z)->Told T m.env nn ((kk,D.app g j args)::(X1 g args (nn+1) (j+1) ls).1) ->
    nn+1+Qs ls<=nv->m.env nn=y/\Rels m nv al (X1 g args (nn+1) (j+1) ls).2 (Z2 ls ys):=by
   intro kk y ys hls hyy ht hle;have h1:=(ht 0 _ _ rfl).1;have h0:=hyy 0 y rfl;simp only[Mk]at h1 h0;refine⟨by rw[h1];simp only[D.ev,hg];exact h0,ih (nn+1) (j+1) ys hls (fun i z hi=>?_) (fun i kk d hi=>?_) hle⟩
   ·have:=hyy (i+1) z (by simpa using hi);rwa[show j+(i+1)=j+1+i by omega]at this
   ·have:=ht (i+1) kk d (by simpa using hi);rwa[show nn+(i+1)=nn+1+i by omega]at this
  cases l with
  |cst c=>exact⟨Qoq c,ih nn j ys hh hy ht (by simpa[Qs,L.n]using hle)⟩
  |int k=>cases ys with
   |nil=>cases hh
   |cons y ys =>
    have hle':nn+1+Qs ls<=nv:=by simp[Qs,L.n]at hle;omega
    obtain⟨h2,h3⟩:=tail (.int k) y ys hh.2 hy ht hle';exact⟨⟨⟨show nn<nv by omega,trivial⟩,by simp only[A.ev,h2];exact hh.1,by simp only[A.ev,h2]⟩,h3⟩
  |bool=>cases ys with
   |nil=>cases hh
   |cons y ys =>
    have hle':nn+1+Qs ls<=nv:=by simp[Qs,L.n]at hle;omega
    obtain⟨h2,h3⟩:=tail .bit y ys hh.2 hy ht hle';exact⟨⟨⟨show nn<nv by omega,trivial⟩,by simp only[A.ev,h2];exact hh.1,by simp only[A.ev,h2]⟩,h3⟩
  |num=>cases ys with
   |nil=>cases hh
   |cons y ys =>
    have hle':nn+1+Qs ls<=nv:=by simp[Qs,L.n]at hle;omega
    obtain⟨h2,h3⟩:=tail .num y ys hh.2 hy ht hle';have hl:∀q:Nat,C.rel m nv al (.int .u64 (.m nn q)) (.int .u64 (y/p64 q%18446744073709551616)):=by
     intro q;refine⟨⟨show nn<nv by omega,by simp only[A.Xbv,h2];exact hh.1⟩,?_,by simp only[A.ev,h2]⟩;simp only[A.ev,has,lo,hi];omega
    exact Rels.append (vs:=Jw y) ⟨hl 0,hl 1,hl 2,hl 3,hl 4,hl 5,trivial⟩ h3
  |lst k=>cases ys with
   |nil=>cases hh
   |cons y ys =>
    have hle':nn+1+Qs ls<=nv:=by simp[Qs,L.n]at hle;omega
    exact(tail (.lst k) y ys hh.2 hy ht hle').2
  |arr k n=>cases ys with
   |nil=>cases hh
   |cons y ys =>
    have hle':nn+1+Qs ls<=nv:=by simp[Qs,L.n]at hle;omega
    obtain⟨h2,h3⟩:=tail (.arr k n) y ys hh.2 hy ht hle';exact Rels.append (Qlm h2 hh.1.1 hh.1.2 (by omega)) h3
end
section
variable {T:List K}{g:Nat}{X:K}{args:List A}{nid n0:Nat}{w':World}
theorem Qla{ys:List Int}{n i:Nat}{y:Int}(h:(ys.take n)[i]?=some y):ys[i]?=some y:=by
 rw[Ku]at h;split at h
 ·exact h
 ·cases h
theorem Qrr(hg:T[g]?=some X):∀(os:List Oh) (nn j:Nat) (ds:Defs) (vs:List V) (nb:Option Box),Zw g args nn j nid os=some (ds,vs,nb) ->
  ∀(ys:List Int) (us:List Value),(∀a∈args,a.ok nn)->Wv n0 w' os ys us->∀e:Nat->Int,(∀(i:Nat) y,ys[i]?=some y->(X.sem (args.map (·.ev e))).getD (j+i) 0=y)->Zf T e nn ds:=by
 intro os
 induction os with
 |nil=>intro nn j ds vs nb h ys us _ hr e _;simp[Zw]at h;obtain⟨rfl,rfl,rfl⟩:=h;trivial
 |cons o os ih =>
  intro nn j ds vs nb h ys us hok hr e hy;cases us with
  |nil=>cases hr
  |cons u us =>
   obtain⟨hr1,hr2,hr3⟩:=hr;have head:=Zd1 (g:=g) hg o.leaves nn j (ys.take (Qs o.leaves)) hok hr1 e (fun i y hi=>hy i y (Qla hi))
   have tail:∀ {q1:Defs} {q2:List V} {q3:Option Box},Zw g args (nn+Qs o.leaves) (j+Qs o.leaves) nid os=some (q1,q2,q3) ->
     ∀e1:Nat->Int,(∀i,i<nn->e1 i=e i)->Zf T e1 (nn+Qs o.leaves) q1:=by
    intro q1 q2 q3 hq e1 he1;refine ih _ _ _ _ _ hq _ _ (fun a ha=>A.Xar (hok a ha) (by omega)) hr3 e1 fun i y hi=>?_
    rw[X2 hok he1];have:=hy (Qs o.leaves+i) y (by rw[Hr]at hi;exact hi);rwa[<- Kn]at this
   cases o with
   |one l =>
    simp only[Zw]at h;split at h
    ·cases h
    ·rename_i q hq;obtain⟨q1,q2,q3⟩:=q;split at h
     ·simp at h;obtain⟨rfl,rfl,rfl⟩:=h;refine Q5 _ _ _ _ head fun e1 he1 _=>?_
      rw[show(X1 g args nn j [l]).1.length=Qs [l]from Z9 ..];exact tail hq e1 he1
     ·cases h
   |agg ls =>
    simp only[Zw]at h;split at h
    ·cases h
    ·rename_i q hq;obtain⟨q1,q2,q3⟩:=q;simp at h;obtain⟨rfl,rfl,rfl⟩:=h;refine Q5 _ _ _ _ head fun e1 he1 _=>?_
     rw[show(X1 g args nn j ls).1.length=Qs ls from Z9 ..];exact tail hq e1 he1
   |box e0 ls =>
    simp only[Zw]at h;split at h
    ·cases h
    ·rename_i q hq;obtain⟨q1,q2,q3⟩:=q;simp only at h;cases q3 with
     |none =>
      simp at h;obtain⟨rfl,rfl,rfl⟩:=h;refine Q5 _ _ _ _ head fun e1 he1 _=>?_
      rw[show(X1 g args nn j ls).1.length=Qs ls from Z9 ..];exact tail hq e1 he1
     |some z=>cases h
   |lst e0 k =>
    simp only[Zw]at h;split at h
    ·cases h
    ·rename_i q hq;obtain⟨q1,q2,q3⟩:=q;simp only at h;cases q3 with
     |none =>
      simp at h;obtain⟨rfl,rfl,rfl⟩:=h;refine Q5 _ _ _ _ head fun e1 he1 _=>?_
      rw[show(X1 g args nn j [.lst k]).1.length=Qs [.lst k]from Z9 ..];exact tail hq e1 he1
     |some z=>cases h
   |lent e0 k =>
    simp only[Zw]at h;split at h
    ·cases h
    ·rename_i q hq;obtain⟨q1,q2,q3⟩:=q;simp only at h;cases q3 with
     |none =>
      simp at h;obtain⟨rfl,rfl,rfl⟩:=h;refine Q5 _ _ _ _ head fun e1 he1 _=>?_
      rw[show(X1 g args nn j [.lst k,.int .i64]).1.length=Qs [.lst k,.int .i64]from Z9 ..];exact tail hq e1 he1
     |some z=>cases h
def Qvl(n0:Nat)(w':World)(m:M)(nv:Nat)(al:Nat->Bool)(b:Nat)(vb:Value)(bx:Box):Prop :=
 (bx.own=true/\(bx.row=none/\bx.fz=(0,0))/\n0<=b/\∃zs:List Value,w'.heap[b]?=some (.cells zs.toArray bx.elem (0,0))/\Rels m nv al bx.cells zs) ∨
 ∃r:Row,bx=Zc r/\r.own=true/\r.x.wf nv m.env/\r.x0=r.x/\r.k.hasL (dec (r.x.ev m.env))/\w'.ownsRow n0 r.elem r.k.sz vb (dec (r.x.ev m.env)).length (flat r.k (dec (r.x.ev m.env)))/\(r.full=true->Qjq vb)
theorem Qgd{w:World}{n0:Nat}{e:TypeId}{s:Nat}{v:Value}{n:Nat}{xs:List Value}(h:w.ownsRow n0 e s v n xs):∃b cap,v=.slice b n cap:=by
 rcases h.2 with⟨hv,hn⟩|⟨g,cap,cur,hv,_⟩
 ·exact⟨none,0,by rw[hv,hn]⟩
 ·exact⟨_,cap,hv⟩
theorem Qtn(hg:T[g]?=some X){m:M}{nv:Nat}{al:Nat->Bool}:∀(os:List Oh) (nn j:Nat) (ds:Defs) (vs:List V) (nb:Option Box),Zw g args nn j nid os=some (ds,vs,nb) ->
  ∀(ys:List Int) (us:List Value),Wv n0 w' os ys us->(∀(i:Nat) y,ys[i]?=some y->(X.sem (args.map (·.ev m.env))).getD (j+i) 0=y) ->
  Told T m.env nn ds->nn+ds.length<=nv ->
   ∃b vb,(∀bx,nb=some bx->Qvl n0 w' m nv al b vb bx) /\
    ∀(m'':M) (al'':Nat->Bool),MExt m nv al m'' nv al''->(∀bx,nb=some bx->al'' nid=true/\(bx.own=true->m''.rho nid=(b,0))/\(bx.own=false->m''.sv nid=vb))->Zi m'' nv al'' vs us:=by
 intro os
 induction os with
 |nil =>
  intro nn j ds vs nb h ys us hr _ _ _;simp[Zw]at h;obtain⟨rfl,rfl,rfl⟩:=h;obtain⟨_,rfl⟩:=hr;exact⟨0,.nilFunc,(fun bx h=>by cases h),fun m'' al'' _ _=>trivial⟩
 |cons o os ih =>
  intro nn j ds vs nb h ys us hr hy ht hle;cases us with
  |nil=>cases hr
  |cons u us =>
   obtain⟨hr1,hr2,hr3⟩:=hr;have head:=Zbz (g:=g) hg (m:=m) (nv:=nv) (al:=al) o.leaves nn j (ys.take (Qs o.leaves)) hr1 (fun i y hi=>hy i y (Qla hi))
   have tail:∀ {q1:Defs} {q2:List V} {q3:Option Box},Zw g args (nn+Qs o.leaves) (j+Qs o.leaves) nid os=some (q1,q2,q3) ->
     Told T m.env (nn+Qs o.leaves) q1->nn+Qs o.leaves+q1.length<=nv ->
     ∃b vb,(∀bx,q3=some bx->Qvl n0 w' m nv al b vb bx) /\
    ∀(m'':M) (al'':Nat->Bool),MExt m nv al m'' nv al''->(∀bx,q3=some bx->al'' nid=true/\(bx.own=true->m''.rho nid=(b,0))/\(bx.own=false->m''.sv nid=vb))->Zi m'' nv al'' q2 us:=by
    intro q1 q2 q3 hq ht1 hl1;refine ih _ _ _ _ _ hq _ _ hr3 (fun i y hi=>?_) ht1 hl1;have:=hy (Qs o.leaves+i) y (by rw[Hr]at hi;exact hi);rwa[<- Kn]at this
   cases o with
   |one l =>
    simp only[Zw]at h;split at h
    ·cases h
    ·rename_i q hq;obtain⟨q1,q2,q3⟩:=q;split at h
     ·rename_i c hc;simp at h;obtain⟨rfl,rfl,rfl⟩:=h;have hlen:(X1 g args nn j [l]).1.length=Qs [l]:=Z9 ..;rw[Told.append,hlen]at ht;rw[O2,hlen]at hle;obtain⟨b,vb,hb1,hb2⟩:=tail hq ht.2 (by simp only[Oh.leaves];omega);refine⟨b,vb,hb1,fun m'' al'' hx hn=>⟨?_,hb2 m'' al'' hx hn⟩⟩;have h1:=head ht.1 (by simp only[Oh.leaves];omega);simp only[Oh.leaves]at h1;rw[hc]at h1;simp only[Oh.rel]at hr2;simp only[Oh.leaves]at hr2;rw[<- hr2]at h1;exact C.Xaz hx h1.1
     ·cases h
   |agg ls =>
    simp only[Zw]at h;split at h
    ·cases h
    ·rename_i q hq;obtain⟨q1,q2,q3⟩:=q;simp at h;obtain⟨rfl,rfl,rfl⟩:=h;have hlen:(X1 g args nn j ls).1.length=Qs ls:=Z9 ..;rw[Told.append,hlen]at ht;rw[O2,hlen]at hle;obtain⟨b,vb,hb1,hb2⟩:=tail hq ht.2 (by simp only[Oh.leaves];omega);refine⟨b,vb,hb1,fun m'' al'' hx hn=>⟨?_,hb2 m'' al'' hx hn⟩⟩;have h1:=head ht.1 (by simp only[Oh.leaves];omega);exact⟨_,hr2,h1.mono hx⟩
   |box e0 ls =>
    simp only[Zw]at h;split at h
    ·cases h
    ·rename_i q hq;obtain⟨q1,q2,q3⟩:=q;simp only at h;cases q3 with
     |none =>
      simp at h;obtain⟨rfl,rfl,rfl⟩:=h;have hlen:(X1 g args nn j ls).1.length=Qs ls:=Z9 ..;rw[Told.append,hlen]at ht;rw[O2,hlen]at hle;obtain⟨_,_,_,hb2⟩:=tail hq ht.2 (by simp only[Oh.leaves];omega);obtain⟨b,hb0,hu,hh⟩:=hr2;have h1:=head ht.1 (by simp only[Oh.leaves];omega);refine⟨b,.nilFunc,fun bx hec=>?_,fun m'' al'' hx hn=>⟨?_,hb2 m'' al'' hx (fun _ h=>by cases h)⟩⟩
      ·simp at hec;subst hec;exact .inl ⟨rfl,⟨rfl,rfl⟩,hb0,_,hh,h1⟩
      ·obtain⟨g1,g2,_⟩:=hn _ rfl;exact⟨g1,by rw[hu];simp[M.at,g2 rfl]⟩
     |some z=>cases h
   |lst e0 k =>
    simp only[Zw]at h;split at h
    ·cases h
    ·rename_i q hq;obtain⟨q1,q2,q3⟩:=q;simp only at h;cases q3 with
     |none =>
      simp at h;obtain⟨rfl,rfl,rfl⟩:=h;have hlen:(X1 g args nn j [.lst k]).1.length=Qs [.lst k]:=Z9 ..;rw[Told.append,hlen]at ht;rw[O2,hlen]at hle;obtain⟨_,_,_,hb2⟩:=tail hq ht.2 (by simp only[Oh.leaves];omega);simp only[Oh.leaves]at hr1 hr2;have hone:Qs [L.lst k]=1:=rfl;rw[hone]at hr1 hle;simp only[Oh.rel,hone]at hr2;cases ys with
      |nil=>cases hr1
      |cons y ys =>
       simp only[List.take_succ_cons,List.take_zero,Lq]at hr1 hr2;have h0:m.env nn=y:=by
        have h1:=(ht.1 0 _ _ rfl).1;simp only[Mk]at h1;rw[h1];simp only[D.ev,hg];exact hy 0 y rfl
       obtain⟨bb,cap,hform⟩:=Qgd hr2;refine⟨0,u,fun bx hec=>?_,fun m'' al'' hx hn=>⟨?_,hb2 m'' al'' hx (fun _ h=>by cases h)⟩⟩
       ·simp at hec;subst hec;refine .inr ⟨_,rfl,rfl,⟨show nn<nv by omega,trivial⟩,rfl,?_,?_,fun h=>by cases h⟩
        ·simp only[A.ev,h0];exact hr1.1
        ·simp only[A.ev,h0];exact hr2
       ·obtain⟨g1,_,g3⟩:=hn _ rfl;exact⟨g1,(g3 rfl).symm,by rw[hform];rfl⟩
     |some z=>cases h
   |lent e0 k =>
    simp only[Zw]at h;split at h
    ·cases h
    ·rename_i q hq;obtain⟨q1,q2,q3⟩:=q;simp only at h;cases q3 with
     |none =>
      simp at h;obtain⟨rfl,rfl,rfl⟩:=h;have hlen:(X1 g args nn j [.lst k,.int .i64]).1.length=Qs [.lst k,.int .i64]:=Z9 ..;rw[Told.append,hlen]at ht;rw[O2,hlen]at hle;obtain⟨_,_,_,hb2⟩:=tail hq ht.2 (by simp only[Oh.leaves];omega);simp only[Oh.leaves]at hr1 hr2;have hone:Qs [L.lst k,.int .i64]=2:=rfl;rw[hone]at hr1 hle;simp only[Oh.rel,hone]at hr2
      match ys,hr1,hr2,hy with
      |[],hr1,_,_=>cases hr1
      |[y],hr1,_,_=>exact hr1.2.elim
      |y::y1::ys,hr1,hr2,hy =>
       simp only[List.take_succ_cons,List.take_zero,Lq,O9,O4]at hr1 hr2;have h0:m.env nn=y:=by
        have h1:=(ht.1 0 _ _ rfl).1;simp only[Mk]at h1;rw[h1];simp only[D.ev,hg];exact hy 0 y rfl
       have h1:m.env (nn+1)=y1:=by
        have h1:=(ht.1 1 _ _ rfl).1;rw[h1];simp only[D.ev,hg];exact hy 1 y1 rfl
       obtain⟨v',o1,o2,o3,o4⟩:=hr2;obtain⟨bb,cap,hform⟩:=Qgd o1;have hbig:=hr1.2.1;simp only[has,lo,hi]at hbig;refine⟨0,v',fun bx hec=>?_,fun m'' al'' hx hn=>⟨?_,hb2 m'' al'' hx (fun _ h=>by cases h)⟩⟩
       ·simp at hec;subst hec;refine .inr ⟨_,rfl,rfl,⟨show nn<nv by omega,trivial⟩,rfl,?_,?_,fun _=>o2⟩
        ·simp only[A.ev,h0];exact hr1.1
        ·simp only[A.ev,h0];exact o1
       ·obtain⟨g1,_,g3⟩:=hn _ rfl;have g3:=g3 rfl;have he:m''.env (nn+1)=y1:=by rw[hx.env _ (by omega)];exact h1
        refine⟨g1,⟨trivial,trivial⟩,⟨show nn+1<nv by omega,trivial⟩,?_,?_,?_⟩
        ·simp only[A.ev,he,g3];rw[hform];exact⟨Int.le_refl _,o3.1,o3.2,hbig.2⟩
        ·simp only[A.ev,he,g3];exact .inl o4
        ·rw[o4];exact Qii (by rw[hform];rfl)
     |some z=>cases h
theorem Qjx{X:K}{g:Nat}{args:List A}{nn nid:Nat}{q:Defs×List V×Option Box}(h:Zi2 X g args nn nid=some q) :
  Zw g args nn 0 nid X.outs=some q∨∃k xs,X.outs=[.one (.int k)]/\Zh A.lit? args=some xs/\hasB k ((X.sem xs).getD 0 0)=true/\q=([],[V.one (.int k (.lit ((X.sem xs).getD 0 0)))],none):=by
 unfold Zi2 at h;split at h
 ·rename_i k xs _ ho hx;split at h
  ·rename_i hb;cases h;exact .inr ⟨k,xs,ho,hx,hb,rfl⟩
  ·exact .inl h
 ·exact .inl h
theorem Zj2(hg:T[g]?=some X){nn:Nat}{ds:Defs}{vs:List V}{nb:Option Box}(h:Zi2 X g args nn nid=some (ds,vs,nb))
  (ys:List Int) (us:List Value) (ha:∀a∈args,a.ok nn) (ho:Wv n0 w' X.outs ys us) (e:Nat->Int) (hy:∀(i:Nat) y,ys[i]?=some y->(X.sem (args.map (·.ev e))).getD (0+i) 0=y):Zf T e nn ds:=by
 rcases Qjx h with h|⟨k,xs,_,_,_,hq⟩
 ·exact Qrr (T:=T) hg _ _ _ _ _ _ h ys us ha ho e hy
 ·cases hq;trivial
theorem Zgx(hg:T[g]?=some X){m:M}{nv:Nat}{al:Nat->Bool}{nn:Nat}{ds:Defs}{vs:List V}{nb:Option Box}(h:Zi2 X g args nn nid=some (ds,vs,nb))
  (ys:List Int) (us:List Value) (hr:Wv n0 w' X.outs ys us) (hy:∀(i:Nat) y,ys[i]?=some y->(X.sem (args.map (·.ev m.env))).getD (0+i) 0=y)
  (ht:Told T m.env nn ds) (hle:nn+ds.length<=nv) :
   ∃b vb,(∀bx,nb=some bx->Qvl n0 w' m nv al b vb bx) /\
    ∀(m'':M) (al'':Nat->Bool),MExt m nv al m'' nv al''->(∀bx,nb=some bx->al'' nid=true/\(bx.own=true->m''.rho nid=(b,0))/\(bx.own=false->m''.sv nid=vb))->Zi m'' nv al'' vs us:=by
 rcases Qjx h with h|⟨k,xs,ho,hx,hb,hq⟩
 ·exact Qtn (T:=T) hg _ _ _ _ _ _ h ys us hr hy ht hle
 ·cases hq;refine⟨0,.nilFunc,(fun bx h=>by cases h),fun m'' al'' _ _=>?_⟩;rw[ho]at hr;cases us with
  |nil=>exact hr.elim
  |cons u us =>
   obtain⟨h1,h2,h3⟩:=hr;obtain⟨h4,rfl⟩:=h3;cases ys with
   |nil=>exact h1.elim
   |cons y ys =>
    have hy0:(X.sem (args.map (·.ev m.env))).getD 0 0=y:=hy 0 y rfl;rw[Qxu m.env _ _ hx]at hy0;have h5:[u]=[Value.int k y]:=h2;refine⟨⟨⟨trivial,trivial⟩,?_,?_⟩,trivial⟩
    ·exact Qjl hb
    ·show u=.int k _;rw[show(A.lit ((X.sem xs).getD 0 0)).ev m''.env=(X.sem xs).getD 0 0 from rfl,hy0];exact List.head_eq_of_cons_eq h5
end
end Go.Sx
