/- Part Gp of the proof. -/
import Derived.Test.YtlloonffibabfaaGreatDoorGo
import Derived.Test.YtlloonffibabfaaGreatDoorGl
import Derived.Test.YtlloonffibabfaaGreatDoorGi
import Derived.Test.YtlloonffibabfaaGreatDoorGh
set_option linter.unusedVariables false
set_option linter.unusedSimpArgs false
namespace Go.Sx
theorem Qsy(P:J E2):Wc P=[(Qc3 P).1.1,(Qc3 P).1.2,(Qc3 P).2.1.1,(Qc3 P).2.1.2,(Qc3 P).2.2]:=Jp P
structure Sg where
 s:Int
 t:T2
 l:Pt
def Sg.L(k:Sg):List Int:=[k.s,k.t.1.1,k.t.1.2,k.t.2.1.1,k.t.2.1.2,k.t.2.2,k.l.x,k.l.y,k.l.z]
def Sg.ok(k:Sg):Prop:=Up k.s k.t.1.1 k.t.1.2 k.t.2.1.1 k.t.2.1.2 k.t.2.2 k.l.x k.l.y k.l.z
def Sg.rg(k:Sg):Prop:=(((0<=k.t.1.1/\0<=k.t.1.2)/\0<=k.t.2.1.1/\0<=k.t.2.1.2)/\0<=k.t.2.2/\k.t.2.2<=1)/\(0<=k.l.x/\0<=k.l.y)/\0<=k.l.z/\k.l.z<=1
def Sg.Is(k:Sg):Prop:=(k.s=0/\k.l=⟨0,0,0⟩/\G2.In Xj.toNat k.t)∨∃h:Je k.s,k.t=((0,0),(0,0),0)/\@Gp.In Pt (Zp (pL k.s)) (fdP (Yh h)) 64 (GL (Yh h)) (Xr k.s).toNat k.l
theorem Sg.Xjm{k:Sg}(h:k.ok)(hr:k.rg):k.Is:=by
 obtain⟨s,⟨⟨x,x'⟩,⟨y,y'⟩,z⟩,⟨lx,ly,lz⟩⟩:=k;rcases h with⟨h1,⟨q1,q2,q3⟩,hg⟩|⟨h1,⟨⟨q1,q1'⟩,⟨q2,q2'⟩,q3⟩,hg⟩
 ·refine .inl ⟨h1,?_,?_⟩
  ·show(⟨lx,ly,lz⟩:Pt)=_;have q1:lx=0:=q1;have q2:ly=0:=q2;have q3:lz=0:=q3;rw[q1,q2,q3]
  ·have c:=hg.1.1;exact(Zb6 (t:=((x,x'),(y,y'),z)) ⟨⟨⟨⟨hr.1.1.1.1,c.1.1⟩,hr.1.1.1.2,c.1.2⟩,⟨hr.1.1.2.1,c.2.1⟩,hr.1.1.2.2,c.2.2⟩,Qsv hr.1.2,hg.1⟩).1 hg
 ·refine .inr ⟨h1,?_,?_⟩
  ·show(((x,x'),(y,y'),z):T2)=_;have q1:x=0:=q1;have q1':x'=0:=q1';have q2:y=0:=q2;have q2':y'=0:=q2';have q3:z=0:=q3;rw[q1,q2,q3,q1',q2']
  ·exact(Qkf (t:=⟨lx,ly,lz⟩) (Yh h1) (Qcb h1) ⟨hg.1,hr.2.1,Qsv hr.2.2⟩).1 hg
theorem Sg.Xi9{k:Sg}(h:k.Is):k.ok/\k.rg:=by
 obtain⟨s,⟨⟨x,x'⟩,⟨y,y'⟩,z⟩,⟨lx,ly,lz⟩⟩:=k;rcases h with⟨h1,h2,h3⟩|⟨h1,h2,h3⟩
 ·injection h2 with q1 q2 q3;have c:=h3.1;refine⟨.inl ⟨h1,⟨q1,q2,q3⟩,(Zb6 h3.1).2 h3⟩,⟨⟨⟨c.1.1.1.1,c.1.1.2.1⟩,c.1.2.1.1,c.1.2.2.1⟩,Zmr c.2.1⟩,?_⟩;show(0<=lx/\0<=ly)/\0<=lz/\lz<=1;rw[q1,q2,q3];decide
 ·have c:onL (pL s) ⟨lx,ly,lz⟩:=h3.1;have h2:(((x,x'),(y,y'),z):T2)=((0,0),(0,0),0):=h2;injection h2 with q1 q2;injection q1 with q1 q1';injection q2 with q2 q3;injection q2 with q2 q2';refine⟨.inr ⟨h1,⟨⟨q1,q1'⟩,⟨q2,q2'⟩,q3⟩,(Qkf (Yh h1) (Qcb h1) c).2 h3⟩,?_,c.2.1,?_⟩
  ·show((0<=x/\0<=x')/\0<=y/\0<=y')/\0<=z/\z<=1;rw[q1,q2,q3,q1',q2'];decide
  ·have h4:=c.2.2;have h4:lz=0∨lz=1:=h4;show 0<=lz/\lz<=1;omega
def Sg.add(k k':Sg):Sg:=if k.s=0 then⟨0,G2.add k.t k'.t,⟨0,0,0⟩⟩else⟨k.s,((0,0),(0,0),0),Xv (pL k.s) k.l k'.l⟩
def Sg.mul(k:Sg)(n:Nat):Sg:=if k.s=0 then⟨0,G2.mul k.t n,⟨0,0,0⟩⟩else⟨k.s,((0,0),(0,0),0),Zs (pL k.s) k.l 64 n⟩
theorem Zq7{k k':Sg}(h:k.ok)(h':k'.ok)(hs:k.s=k'.s):Qh6 k.s k.t.1.1 k.t.1.2 k.t.2.1.1 k.t.2.1.2 k.t.2.2 k.l.x k.l.y k.l.z k'.s k'.t.1.1 k'.t.1.2 k'.t.2.1.1 k'.t.2.1.2 k'.t.2.2 k'.l.x k'.l.y k'.l.z=(k.add k').L++[0]:=by
 unfold Qh6 Sg.add;rw[if_neg (fun hc=>hc.elim (fun c=>c h) (fun c=>c h')),if_neg (fun hc=>hc hs)];by_cases h0:k.s=0
 ·rw[if_pos h0,if_pos h0,Qsy];rfl
 ·rw[if_neg h0,if_neg h0];rfl
theorem Zpx{k:Sg}(h:k.ok){n:Int}(hn:n<Xr k.s):Qiv k.s k.t.1.1 k.t.1.2 k.t.2.1.1 k.t.2.1.2 k.t.2.2 k.l.x k.l.y k.l.z n=(k.mul n.toNat).L++[0]:=by
 unfold Qiv Sg.mul;rw[if_neg (fun hc=>hc h),if_neg (fun hc=>hc hn)];by_cases h0:k.s=0
 ·rw[if_pos h0,if_pos h0,Qsy];rfl
 ·rw[if_neg h0,if_neg h0];rfl
section
variable {k k':Sg}
theorem Sg.Xjv(h:k.Is):(k.add k').s=k.s:=by
 unfold Sg.add;by_cases h0:k.s=0
 ·rw[if_pos h0];exact h0.symm
 ·rw[if_neg h0]
theorem Sg.Xjh(h:k.Is)(n:Nat):(k.mul n).s=k.s:=by
 unfold Sg.mul;by_cases h0:k.s=0
 ·rw[if_pos h0];exact h0.symm
 ·rw[if_neg h0]
theorem Sg.Xjo(h:k.Is)(h':k'.Is)(hs:k.s=k'.s):(k.add k').Is:=by
 unfold Sg.add;rcases h with⟨h1,h2,h3⟩|⟨h1,h2,h3⟩
 ·rw[if_pos h1];rcases h' with⟨h1',h2',h3'⟩|⟨h1',_,_⟩
  ·exact .inl ⟨rfl,rfl,G2.in_add h3 h3'⟩
  ·exact absurd (hs.symm.trans h1) (Xe h1')
 ·rw[if_neg (Xe h1)];rcases h' with⟨h1',_,_⟩|⟨h1',h2',h3'⟩
  ·exact absurd (hs.trans h1') (Xe h1)
  ·obtain⟨s,t,l⟩:=k;obtain⟨s',t',l'⟩:=k';have hs:s=s':=hs;subst hs;letI:=fdP (Yh h1);exact .inr ⟨h1,rfl,(GL (Yh h1)).in_add h3 h3'⟩
theorem Sg.Xi4(h:k.Is){n:Int}(hn:n<Xr k.s):(k.mul n.toNat).Is:=by
 unfold Sg.mul;rcases h with⟨h1,h2,h3⟩|⟨h1,h2,h3⟩
 ·rw[if_pos h1];rw[Zdg h1]at hn;exact .inl ⟨rfl,rfl,G2.in_mul (Ko (Uy Zfi hn) Qad) h3⟩
 ·rw[if_neg (Xe h1)];letI:=fdP (Yh h1);exact .inr ⟨h1,rfl,(GL (Yh h1)).in_mul (Ko (Uy (Vv _) hn) (Qcb h1)) h3⟩
theorem Sg.add_comm(h:k.Is)(h':k'.Is)(hs:k.s=k'.s):k.add k'=k'.add k:=by
 unfold Sg.add;rcases h with⟨h1,h2,h3⟩|⟨h1,h2,h3⟩
 ·rw[if_pos h1,if_pos (hs.symm.trans h1)];rcases h' with⟨h1',h2',h3'⟩|⟨h1',_,_⟩
  ·rw[G2.comm h3.1 h3'.1]
  ·exact absurd (hs.symm.trans h1) (Xe h1')
 ·rw[if_neg (Xe h1),if_neg (fun hc=>Xe h1 (hs.trans hc))];rcases h' with⟨h1',_,_⟩|⟨h1',h2',h3'⟩
  ·exact absurd (hs.trans h1') (Xe h1)
  ·obtain⟨s,t,l⟩:=k;obtain⟨s',t',l'⟩:=k';have hs:s=s':=hs;subst hs;letI:=fdP (Yh h1);have:=(GL (Yh h1)).comm h3.1 h3'.1;have:Xv (pL s) l l'=Xv (pL s) l' l:=this;show Sg.mk s ((0,0),(0,0),0) (Xv (pL s) l l')=Sg.mk s ((0,0),(0,0),0) (Xv (pL s) l' l);rw[this]
theorem Sg.mul_add(h:k.Is){m n:Int}(hm:0<=m/\m<Xr k.s)(hn:0<=n/\n<Xr k.s):(k.mul m.toNat).add (k.mul n.toNat)=k.mul ((m+n)%Xr k.s).toNat:=by
 have hr0:=Vv k.s;have e:((m+n)%Xr k.s).toNat=(m.toNat+n.toNat)%(Xr k.s).toNat:=by
  rw[<- Int.toNat_add hm.1 hn.1];exact Int.toNat_emod (by omega) (by omega)
 have lt:((m+n)%Xr k.s).toNat<(Xr k.s).toNat:=by have:=Mt (m+n) hr0;have:=Mr (m+n) (show Xr k.s≠0 by omega);omega
 rw[e]at lt ⊢;rcases h with⟨h1,h2,h3⟩|⟨h1,h2,h3⟩
 ·unfold Sg.mul Sg.add;rw[if_pos h1,if_pos h1,if_pos h1,if_pos rfl];rw[Zdg h1]at *
  show Sg.mk 0 (G2.add (G2.mul k.t m.toNat) (G2.mul k.t n.toNat)) ⟨0,0,0⟩=_;rw[G2.mul_add (Ko (Uy Zfi hm.2) Qad) (Ko (Uy Zfi hn.2) Qad) (Ko lt Qad) h3]
 ·unfold Sg.mul Sg.add;rw[if_neg (Xe h1),if_neg (Xe h1),if_neg (Xe h1)];letI:=fdP (Yh h1);have:=(GL (Yh h1)).mul_add (m:=m.toNat) (n:=n.toNat) (Ko (Uy hr0 hm.2) (Qcb h1)) (Ko (Uy hr0 hn.2) (Qcb h1)) (Ko lt (Qcb h1)) h3;have:Xv (pL k.s) (Zs (pL k.s) k.l 64 m.toNat) (Zs (pL k.s) k.l 64 n.toNat)=Zs (pL k.s) k.l 64 ((m.toNat+n.toNat)%(Xr k.s).toNat):=this;rw[if_neg (show ¬k.s=0 from Xe h1)];show Sg.mk k.s ((0,0),(0,0),0) (Xv (pL k.s) (Zs (pL k.s) k.l 64 m.toNat) (Zs (pL k.s) k.l 64 n.toNat))=_;rw[this]
end
end Go.Sx
namespace Go.Sx
open Go Go.RowKit
set_option maxRecDepth 100000
def c1C:Int:=76329603384216526031706109802092473003
def c2H:Int:=7753471546817421876352401404677497346
def c2L:Int:=31640087687133594561672938042040237956554166779806713946917678553406339831293190165893855194701355984543931497068773
def cSh:Int:=6277101735386680763835789423207666416102355444464034512896
def Qci(s:ByteArray)(v:Int)(f:FuncId):K:={fn:=f,ext:=false,ins:=[.one (.cst (.str s))],outs:=[oN],pre:=fun _=>True,sem:=fun _=>[v] }
def Qsz(f:FuncId):K:={fn:=f,ext:=false,ins:=[iN,.one (.cst (.int .i64 (.lit 192)))],outs:=[oN],pre:=fun|[a]=>a=1|_=>False,sem:=fun _=>[cSh] }
def Xft(v:Int):List W->Bool|[.wi a]=>a==v|_=>false
theorem Qog{t:Qn}{v:Int}(hc:t.clo Qhu (Xft v) []=true)(f1 f2:FuncId)(e:Nat->Int):t.Xij [Qhx f1,Qa8 f2] ⟨fun ys=>ys=[v],[]⟩ e:=by
 refine Bh (fd:=Qhu) (fun g us os h=>?_) (fun ws h=>?_) t [] hc fun p hp=>absurd hp (Mx)
 ·unfold Qhu at h;split at h
  ·cases h;exact⟨_,rfl,trivial,rfl⟩
  ·split at h
   ·rename_i a ha;cases h;refine⟨_,rfl,?_,rfl⟩;show a<2^380;rw[show(2:Int)^380=2462625387274654950767440006258975862817483704404090416746768337765357610718575663213391640930307227550414249394176 by decide +kernel];exact ha
   ·cases h
  ·cases h
 ·match ws,h with
  |[.wi a],h =>
   have h:(a==v)=true:=h;rw[beq_iff_eq]at h;show[a]=[v]
   rw[h]
def Zvc:Qn:=(.l 1 kU (.b .shl .u64 (.m 0 0) (.n 0))
(.l 2 kU (.b .shl .u64 (.m 0 1) (.n 0))
(.l 3 kU (.b .shl .u64 (.m 0 2) (.n 0))
(.l 4 .num (.join [.n 0,.n 0,.n 0,.v 1,.v 2,.v 3])
(.ret [.v 4])))))
theorem Qxh(f:FuncId)(e:Nat->Int)(hp:e 0=1):Zvc.Xij [] ⟨fun ys=>ys=(Qsz f).sem [e 0],[]⟩ e:=by
 intro a1 _ a2 _ a3 _ a4 _;have l0:A.ev e (.m 0 0)=1:=by show e 0/p64 0%18446744073709551616=1;rw[hp];decide +kernel
 have l1:A.ev e (.m 0 1)=0:=by show e 0/p64 1%18446744073709551616=0;rw[hp];decide +kernel
 have l2:A.ev e (.m 0 2)=0:=by show e 0/p64 2%18446744073709551616=0;rw[hp];decide +kernel
 have v1:e 1=1:=by rw[show e 1=Qw .shl .u64 (A.ev e (.m 0 0)) 0 from a1,l0];decide +kernel
 have v2:e 2=0:=by rw[show e 2=Qw .shl .u64 (A.ev e (.m 0 1)) 0 from a2,l1];decide +kernel
 have v3:e 3=0:=by rw[show e 3=Qw .shl .u64 (A.ev e (.m 0 2)) 0 from a3,l2];decide +kernel
 show[e 4]=[cSh]
 rw[show e 4=Y2 [0,0,0,e 1,e 2,e 3]from a4,v1,v2,v3];decide +kernel
noncomputable def Qhe(f:FuncId):K:={fn:=f,ext:=false,ins:=[.agg Jn],outs:=[.agg Jn,oI],pre:=fun|[x,y,z]=>onV x y z|_=>False,sem:=fun|[x,y,z]=>Vg (Xd R1 (rsV x y z) 384 c1C.toNat)++[0]|_=>[] }
def Zb8:Qn:=(xw 1 [] 51 Q7
(xw 0 [.v 0,.v 1,.v 2,.v 51] 99 qla
(.ret [.v 99,.v 100,.v 101,.v 102])))
theorem Zav(s:ByteArray)(f1 f2 f:FuncId)(e:Nat->Int)(hp:(Qhe f).pre [e 0,e 1,e 2]):Zb8.Xij [Qc9 f1,Qci s c1C f2] ⟨fun ys=>ys=(Qhe f).sem [e 0,e 1,e 2],[]⟩ e:=by
 have hp:onV (e 0) (e 1) (e 2):=hp;show Zb8.Xij _ ⟨fun ys=>ys=Vg (Xd R1 (rsV (e 0) (e 1) (e 2)) 384 c1C.toNat)++[0],[]⟩ e;refine⟨trivial,fun a51 _=>⟨hp,fun a99 _ a100 _ a101 _ a102 _=>?_⟩⟩;have v51:e 51=c1C:=a51;have hl:∀P:J Int,∃a b c,Vg P=[a,b,c]:=fun P=>⟨_,_,_,rfl⟩
 obtain⟨a,b,c,h⟩:=hl (Xd R1 (rsV (e 0) (e 1) (e 2)) 384 c1C.toNat);have q:∀i,((Qc9 f1).sem [e 0,e 1,e 2,e 51]).getD i 0=([a,b,c,0]:List Int).getD i 0:=fun i=>by
  show(Vg (Xd R1 (rsV (e 0) (e 1) (e 2)) 384 (e 51).toNat)++[0]).getD i 0=_;rw[v51,h];rfl
 show[e 99,e 100,e 101,e 102]=_;rw[show e 99=_ from a99,show e 100=_ from a100,show e 101=_ from a101,show e 102=_ from a102,h];show[((Qc9 f1).sem [e 0,e 1,e 2,e 51]).getD 0 0,((Qc9 f1).sem [e 0,e 1,e 2,e 51]).getD 1 0,((Qc9 f1).sem [e 0,e 1,e 2,e 51]).getD 2 0,((Qc9 f1).sem [e 0,e 1,e 2,e 51]).getD 3 0]=_;rw[q,q,q,q];rfl
theorem Qnq{t:T2}{n:Int}{x0 x1 x2 x3 x4 x5:Int}(h0:x0=((V7 0).sem [t.1.1,t.1.2,t.2.1.1,t.2.1.2,t.2.2,n]).getD 0 0)(h1:x1=((V7 0).sem [t.1.1,t.1.2,t.2.1.1,t.2.1.2,t.2.2,n]).getD 1 0)(h2:x2=((V7 0).sem [t.1.1,t.1.2,t.2.1.1,t.2.1.2,t.2.2,n]).getD 2 0)
  (h3:x3=((V7 0).sem [t.1.1,t.1.2,t.2.1.1,t.2.1.2,t.2.2,n]).getD 3 0) (h4:x4=((V7 0).sem [t.1.1,t.1.2,t.2.1.1,t.2.1.2,t.2.2,n]).getD 4 0) (h5:x5=((V7 0).sem [t.1.1,t.1.2,t.2.1.1,t.2.1.2,t.2.2,n]).getD 5 0) :
  (((x0,x1),(x2,x3),x4):T2)=G2.mul t n.toNat/\x5=0:=by
 have q:(V7 0).sem [t.1.1,t.1.2,t.2.1.1,t.2.1.2,t.2.2,n]=T2.L (G2.mul t n.toNat)++[0]:=by
  show Wc (Xd R2 (rsU t) 384 n.toNat)++[0]=T2.L (Qc3 (Xd R2 (rsU t) 384 n.toNat))++[0]
  rw[Qsy];rfl
 rw[q]at h0 h1 h2 h3 h4 h5;refine⟨?_,h5⟩;rw[h0,h1,h2,h3,h4];rfl
def hi3(t:T2):T2:=G2.mul (G2.mul (G2.mul t c2H.toNat) cSh.toNat) cSh.toNat
noncomputable def Qx7(t:T2):T2:=Qc3 (Jk [enc (T2.L (hi3 t)),enc (T2.L t)] [1,c2L])
noncomputable def Qg6(f:FuncId):K:={fn:=f,ext:=false,ins:=[.agg Qax],outs:=[.agg Qax,oI],pre:=fun|[a,b,c,d,z]=>Qh8 ((a,b),(c,d),z)|_=>False,sem:=fun|[a,b,c,d,z]=>T2.L (Qx7 ((a,b),(c,d),z))++[0]|_=>[] }
theorem Qq1{t:T2}(h:Qh8 t):Qd9 t.1.1 t.1.2 t.2.1.1 t.2.1.2 t.2.2:=h.2.2
def Zb0:Qn:=(xw 1 [] 53 Q7
(xw 0 [.v 0,.v 1,.v 2,.v 3,.v 4,.v 53] 101 qda
(.l 437 .bit (.c .neq (.v 106) (.n 0))
(.split 437
(.ret [.n 0,.n 0,.n 0,.n 0,.n 0,.v 106])
(xw 3 [.n 1] 438 Q7
(xw 4 [.v 438] 439 Q7
(xw 0 [.v 101,.v 102,.v 103,.v 104,.v 105,.v 439] 440 qda
(xw 0 [.v 440,.v 441,.v 442,.v 443,.v 444,.v 439] 446 qda
(xw 3 [.n 1] 596 Q7
(xw 2 [] 644 Q7
(.l 740 .any (.lapp (.n 0) [.v 446,.v 447,.v 448,.v 449,.v 450])
(.l 741 .any (.lapp (.n 0) [.v 0,.v 1,.v 2,.v 3,.v 4])
(.l 742 (.lst (.tup .num [.num,.num,.num,.bit])) (.lapp (.n 0) [.v 740,.v 741])
(.l 743 (.lst .num) (.lapp (.n 0) [.v 596,.v 644])
(xw 5 [.v 742,.v 743] 744 qda
(.ret [.v 744,.v 745,.v 746,.v 747,.v 748,.v 749]))))))))))))))))
theorem Qxe(s1 s2:ByteArray)(f0 f1 f2 f3 f4 f5 f:FuncId)(e:Nat->Int)(hp:(Qg6 f).pre [e 0,e 1,e 2,e 3,e 4]):Zb0.Xij [V7 f0,Qci s1 c2H f1,Qci s2 c2L f2,kOf f3,Qsz f4,Yd f5] ⟨fun ys=>ys=(Qg6 f).sem [e 0,e 1,e 2,e 3,e 4],[]⟩ e:=by
 obtain⟨t,ht0⟩:∃t:T2,t=((e 0,e 1),(e 2,e 3),e 4):=⟨_,rfl⟩
 have ht:Qh8 t:=by rw[ht0];exact hp
 show Zb0.Xij _ ⟨fun ys=>ys=T2.L (Qx7 ((e 0,e 1),(e 2,e 3),e 4))++[0],[]⟩ e;rw[<- ht0];have k1:=(G2.mul_ok (n:=c2H.toNat) ht (by decide +kernel)).1;have k2:=(G2.mul_ok (n:=cSh.toNat) k1 (by decide +kernel)).1;have k3:=(G2.mul_ok (n:=cSh.toNat) k2 (by decide +kernel)).1;refine⟨trivial,fun a53 _=>⟨hp.2.2,fun a101 _ a102 _ a103 _ a104 _ a105 _ a106 _ a437 _=>?_⟩⟩;have v53:e 53=c2H:=a53;obtain⟨r1,v106⟩:(((e 101,e 102),(e 103,e 104),e 105):T2)=G2.mul t c2H.toNat/\e 106=0:=by
  rw[<- v53,ht0];exact Qnq (t:=((e 0,e 1),(e 2,e 3),e 4)) (n:=e 53) a101 a102 a103 a104 a105 a106
 have b437:=Qaj a437;simp only[Qm,Qp]at b437;refine⟨fun h=>by omega,fun _=>⟨trivial,fun a438 _=>?_⟩⟩;have v438:e 438=1:=a438;refine⟨v438,fun a439 _=>?_⟩;have v439:e 439=cSh:=a439;rw[<- r1]at k1;refine⟨Qq1 k1,fun a440 _ a441 _ a442 _ a443 _ a444 _ a445 _=>?_⟩;obtain⟨r2,v445⟩:(((e 440,e 441),(e 442,e 443),e 444):T2)=G2.mul (G2.mul t c2H.toNat) cSh.toNat/\e 445=0:=by
  rw[<- v439,<- r1];exact Qnq (t:=((e 101,e 102),(e 103,e 104),e 105)) (n:=e 439) a440 a441 a442 a443 a444 a445
 rw[<- r2]at k2;refine⟨Qq1 k2,fun a446 _ a447 _ a448 _ a449 _ a450 _ a451 _=>⟨trivial,fun a596 _=>⟨trivial,fun a644 _ a740 _ a741 _ a742 _ a743 _=>?_⟩⟩⟩;obtain⟨r3,v451⟩:(((e 446,e 447),(e 448,e 449),e 450):T2)=hi3 t/\e 451=0:=by
  obtain⟨q1,q2⟩:=Qnq (t:=((e 440,e 441),(e 442,e 443),e 444)) (n:=e 439) a446 a447 a448 a449 a450 a451;rw[r2,v439]at q1;exact⟨q1,q2⟩
 have k3':Qh8 (hi3 t):=k3;have v596:e 596=1:=a596;have v644:e 644=c2L:=a644;have v740:e 740=enc (T2.L (hi3 t)):=by
  rw[<- r3,show e 740=enc (dec 0++[e 446,e 447,e 448,e 449,e 450])from a740,Qu];rfl
 have v741:e 741=enc (T2.L t):=by
  rw[ht0,show e 741=enc (dec 0++[e 0,e 1,e 2,e 3,e 4])from a741,Qu];rfl
 have d742:dec (e 742)=[e 740,e 741]:=by rw[show e 742=enc (dec 0++[e 740,e 741])from a742,Qr,Qu];rfl
 have d743:dec (e 743)=[e 596,e 644]:=by rw[show e 743=enc (dec 0++[e 596,e 644])from a743,Qr,Qu];rfl
 have onw:∀u:T2,Qh8 u->onW (enc (T2.L u)):=fun u hu=>by
  have h:=Qq1 hu;unfold onW cq;rw[Qr];exact h
 have hpre:(Yd f5).pre [e 742,e 743]:=by
  show(dec (e 742)).length=(dec (e 743)).length/\(dec (e 742)).length<=1000/\∀c∈dec (e 742),onW c;rw[d742,d743];refine⟨rfl,(show(2:Nat)<=1000 by decide),fun c hc=>?_⟩;simp only[O6,Mx,or_false]at hc;rcases hc with rfl|rfl
  ·rw[v740];exact onw _ k3'
  ·rw[v741];exact onw _ ht
 refine⟨hpre,fun a744 _ a745 _ a746 _ a747 _ a748 _ a749 _=>?_⟩;have q:∀i,((Yd f5).sem [e 742,e 743]).getD i 0=(T2.L (Qx7 t)++[0]).getD i 0:=fun i=>by
  show(Wc (Jk (dec (e 742)) (dec (e 743)))++[0]).getD i 0=_;rw[d742,d743,v740,v741,v596,v644,Qsy];rfl
 show[e 744,e 745,e 746,e 747,e 748,e 749]=_;rw[show e 744=((Yd f5).sem [e 742,e 743]).getD 0 0 from a744,show e 745=((Yd f5).sem [e 742,e 743]).getD 1 0 from a745,show e 746=((Yd f5).sem [e 742,e 743]).getD 2 0 from a746,show e 747=((Yd f5).sem [e 742,e 743]).getD 3 0 from a747,show e 748=((Yd f5).sem [e 742,e 743]).getD 4 0 from a748,show e 749=((Yd f5).sem [e 742,e 743]).getD 5 0 from a749,q,q,q,q,q,q];rfl
theorem Qrz:bP%2=1/\3<=bP/\bP<2^382:=⟨Bj,by decide +kernel,by decide +kernel⟩
noncomputable def U6(s:Int)(t:List Int):Sg:=if s=0 then⟨0,Qx7 (Qae (Zo bP 3 t) (Zo bP 4 t)),⟨0,0,0⟩⟩else⟨s,((0,0),(0,0),0),Ui s 3 t⟩
def Qtn(t:List Int):Prop:=∃n:Nat,Uk (Zo bP 4 t%bP) ((Zo bP 3 t+n)%bP)
noncomputable def Qw6(s x:Int):List Int:=if Y5 s then(if Y6 (dec x)<=65536 then Sg.L (U6 s (Z2 (dec x)))++[0]else[0,0,0,0,0,0,0,0,0,3])else[0,0,0,0,0,0,0,0,0,2]
noncomputable def Qwm(Q:Int->List Int->Prop)(f:FuncId):K:={fn:=f,ext:=false,ins:=[iI,.ll],outs:=[.agg Qz1,oI],pre:=fun|[s,x]=>Zqb x/\(s=0->Y6 (dec x)<=65536->Qtn (Z2 (dec x)))/\(Y6 (dec x)<=65536->Q 3 (Z2 (dec x))/\Q 4 (Z2 (dec x)))|_=>False,sem:=fun|[s,x]=>Qw6 s x|_=>[] }
theorem Xeg{x:Int}(h:Y6 (dec x)<=65536):(Z2 (dec x)).length<=65536:=by have:=Qid (dec x);omega
theorem Qxi{s x a b:Int}(ha:a=(if Y5 s then Qp4 x else[0,2]).getD 0 0)(hb:b=(if Y5 s then Qp4 x else[0,2]).getD 1 0) :
  (¬Y5 s/\b=2)∨(Y5 s/\¬Y6 (dec x)<=65536/\b=3)∨(Y5 s/\Y6 (dec x)<=65536/\b=0/\dec a=Z2 (dec x)):=by
 by_cases hs:Y5 s
 ·rw[if_pos hs]at ha hb;unfold Qp4 at ha hb;by_cases ht:Y6 (dec x)<=65536
  ·rw[if_pos ht]at ha hb;exact .inr (.inr ⟨hs,ht,hb,by rw[ha];exact Qr _⟩)
  ·rw[if_neg ht]at ha hb;exact .inr (.inl ⟨hs,ht,hb⟩)
 ·rw[if_neg hs]at ha hb;exact .inl ⟨hs,hb⟩
def Qms:Qn:=(xw 0 [.v 0,.v 1] 2 [(.lst (.int .u8)),kI]
(.l 4 .bit (.c .neq (.v 3) (.n 0))
(.split 4
(.ret [.n 0,.n 0,.n 0,.n 0,.n 0,.n 0,.n 0,.n 0,.n 0,.v 3])
(.l 5 .bit (.c .eql (.v 0) (.n 0))
(.split 5
(xw 1 [.v 0] 6 Q7
(xw 2 [.v 6,.n 3,.v 2] 7 Q7
(xw 1 [.v 0] 8 Q7
(xw 2 [.v 8,.n 4,.v 2] 9 Q7
(xw 3 [.v 7,.v 9] 10 qda
(xw 4 [.v 10,.v 11,.v 12,.v 13,.v 14] 16 qda
(.ret [.v 0,.v 16,.v 17,.v 18,.v 19,.v 20,.n 0,.n 0,.n 0,.n 0])))))))
(xw 5 [.v 0,.n 3,.v 2] 6 qra
(.ret [.v 0,.n 0,.n 0,.n 0,.n 0,.n 0,.v 6,.v 7,.v 8,.n 0])))))))
theorem Zkv(Q:Int->List Int->Prop)(te:TypeId)(f0 f1 f2 f3 f4 f5 f:FuncId)(e:Nat->Int)(hp:(Qwm Q f).pre [e 0,e 1]):Qms.Xij [Qur te f0,Qdk f1,Qg1 Q f2,Qmg f3,Qg6 f4,Qmb Q f5] ⟨fun ys=>ys=(Qwm Q f).sem [e 0,e 1],[]⟩ e:=by
 obtain⟨hp,hthere,hq⟩:Zqb (e 1)/\(e 0=0->Y6 (dec (e 1))<=65536->Qtn (Z2 (dec (e 1))))/\(Y6 (dec (e 1))<=65536->Q 3 (Z2 (dec (e 1)))/\Q 4 (Z2 (dec (e 1)))):=hp;show Qms.Xij _ ⟨fun ys=>ys=Qw6 (e 0) (e 1),[]⟩ e;unfold Qw6;refine⟨hp,fun a2 _ a3 _ a4 _=>?_⟩;have a3:e 3=_:=a3;have b4:=Qaj a4;simp only[Qm,Qp]at b4;rcases Qxi (s:=e 0) (x:=e 1) a2 a3 with⟨h1,h2⟩|⟨h1,h2,h3⟩|⟨h1,h2,h3,h4⟩
 ·refine⟨fun _=>?_,fun h=>by omega⟩;rw[if_neg h1];show[0,0,0,0,0,0,0,0,0,e 3]=_;rw[h2]
 ·refine⟨fun _=>?_,fun h=>by omega⟩;rw[if_pos h1,if_neg h2];show[0,0,0,0,0,0,0,0,0,e 3]=_;rw[h3]
 ·refine⟨fun h=>by omega,fun _ a5 _=>?_⟩;have b5:=Zi a5;simp only[Qm,Qp]at b5;rw[if_pos h1,if_pos h2];have hlen:=Xeg h2;refine⟨fun h=>?_,fun h=>?_⟩
  ·have h0:=Zc b5 h;have hth:=hthere h0 h2;refine⟨h1,fun a6 _=>?_⟩;have v6:e 6=bP:=by rw[show e 6=U0 (e 0)from a6,U0,if_pos h0]
   refine⟨⟨by show e 6%2=1/\3<=e 6/\e 6<2^382;rw[v6];exact Qrz,by show(dec (e 2)).length<=65536;rw[h4];exact hlen,by show Q 3 (dec (e 2));rw[h4];exact(hq h2).1⟩,fun a7 _=>⟨h1,fun a8 _=>?_⟩⟩;have v8:e 8=bP:=by rw[show e 8=U0 (e 0)from a8,U0,if_pos h0]
   refine⟨⟨by show e 8%2=1/\3<=e 8/\e 8<2^382;rw[v8];exact Qrz,by show(dec (e 2)).length<=65536;rw[h4];exact hlen,by show Q 4 (dec (e 2));rw[h4];exact(hq h2).2⟩,fun a9 _=>?_⟩;have v7:e 7=Zo bP 3 (Z2 (dec (e 1))):=by rw[show e 7=Zo (e 6) 3 (dec (e 2))from a7,v6,h4]
   have v9:e 9=Zo bP 4 (Z2 (dec (e 1))):=by rw[show e 9=Zo (e 8) 4 (dec (e 2))from a9,v8,h4]
   have hth':∃n:Nat,Uk (e 9%bP) ((e 7+n)%bP):=by rw[v7,v9];exact hth
   refine⟨hth',fun a10 _ a11 _ a12 _ a13 _ a14 _ a15 _=>?_⟩;have r1:(((e 10,e 11),(e 12,e 13),e 14):T2)=Qae (e 7) (e 9):=by
    rw[show e 10=_ from a10,show e 11=_ from a11,show e 12=_ from a12,show e 13=_ from a13,show e 14=_ from a14];rfl
   refine⟨by show Qh8 ((e 10,e 11),(e 12,e 13),e 14);rw[r1];exact Zhm hth',fun a16 _ a17 _ a18 _ a19 _ a20 _ a21 _=>?_⟩;have r2:(((e 16,e 17),(e 18,e 19),e 20):T2)=Qx7 (Qae (e 7) (e 9)):=by
    rw[<- r1,show e 16=_ from a16,show e 17=_ from a17,show e 18=_ from a18,show e 19=_ from a19,show e 20=_ from a20];rfl
   show[e 0,e 16,e 17,e 18,e 19,e 20,0,0,0,0]=_;unfold U6;rw[if_pos h0,h0,<- v7,<- v9,<- r2];rfl
  ·have h0:=Xf b5 h;have hl:Je (e 0):=by unfold Y5 at h1;unfold Je;omega
   refine⟨⟨hl,by show(dec (e 2)).length<=65536;rw[h4];exact hlen,by show Q 3 (dec (e 2));rw[h4];exact(hq h2).1⟩,fun a6 _ a7 _ a8 _=>?_⟩;have r:([e 6,e 7,e 8]:List Int)=(Ui (e 0) 3 (Z2 (dec (e 1)))).l:=by
    rw[<- h4,show e 6=_ from a6,show e 7=_ from a7,show e 8=_ from a8];rfl
   show[e 0,0,0,0,0,0,e 6,e 7,e 8,0]=_;unfold U6;rw[if_neg h0];have q:Sg.L ⟨e 0,((0,0),(0,0),0),Ui (e 0) 3 (Z2 (dec (e 1)))⟩=[e 0,0,0,0,0,0]++(Ui (e 0) 3 (Z2 (dec (e 1)))).l:=rfl;rw[q,<- r];rfl
def Qvt:List Int:=[114,101,108,105,113,117,97,114,121]
def Xy:List Int:=[0,0,0,9,114,101,108,105,113,117,97,114,121]
theorem Zig:Z2 [enc Qvt]=Xy:=by
 simp only[Z2,Qr,Hn];rfl
theorem Zjs:Y6 [enc Qvt]=13:=by
 simp only[Y6,Qr];rfl
noncomputable def b1T:T1:=Qnu (Xd R1 (rsV (Bg (Zo bP 1 Xy)) ((Y0 (Zy (Bg (Zo bP 1 Xy)))).getD 0 0) 0) 384 c1C.toNat)
noncomputable def Jb(s:Int):Ky:=if s=0 then⟨0,b1T,⟨0,0,0⟩⟩else⟨s,(0,0,0),Ui s 1 Xy⟩
noncomputable def Qm3(Q:Int->List Int->Prop)(f:FuncId):K:={fn:=f,ext:=false,ins:=[iI],outs:=[.agg Qeq,oI],pre:=fun|[s]=>(s=0->(∃n:Nat,Qa7 ((Zo bP 1 Xy+n)%bP))/\b1T.2.2=0)/\(Je s->(Ui s 1 Xy).z=0)/\Q 1 Xy|_=>False,sem:=fun|[s]=>if Y5 s then Ky.L (Jb s)++[0]else[0,0,0,0,0,0,0,2]|_=>[] }
theorem Zld{x:Int}(h:∃n:Nat,Qa7 ((x+n)%bP)):onV (Bg x) ((Y0 (Zy (Bg x))).getD 0 0) 0:=by
 have h1:sqV (Zy (Bg x)):=(Qbd h).1;unfold Y0;rw[if_pos h1];exact Zyu (Zl Q5).2 h1
def Zkq:Qn:=(xw 6 [.v 0] 1 U3
(.l 2 .bit (.not (.v 1))
(.split 2
(.ret [.n 0,.n 0,.n 0,.n 0,.n 0,.n 0,.n 0,.n 2])
(.l 3 (.lst (.int .u8)) (.lapp (.n 0) [.n 114,.n 101,.n 108,.n 105,.n 113,.n 117,.n 97,.n 114,.n 121])
(.l 4 (.lst .byt) (.lapp (.n 0) [.v 3])
(xw 0 [.v 4] 5 qta
(.l 6 .bit (.c .eql (.v 0) (.n 0))
(.split 6
(xw 1 [.v 0] 7 Q7
(xw 2 [.v 7,.n 1,.v 5] 8 Q7
(xw 3 [.v 8] 9 qla
(xw 4 [.v 9,.v 10,.v 11] 13 qla
(.l 17 .bit (.not (.v 15))
(.split 17
(.ret [.v 0,.v 13,.v 14,.v 15,.n 0,.n 0,.n 0,.n 0])
(.bad 93 "suite.go:183")))))))
(xw 5 [.v 0,.n 1,.v 5] 7 qra
(.l 10 .bit (.not (.v 9))
(.split 10
(.ret [.v 0,.n 0,.n 0,.n 0,.v 7,.v 8,.v 9,.n 0])
(.bad 93 "suite.go:183"))))))))))))
theorem Zm2(Q:Int->List Int->Prop)(te:TypeId)(f0 f1 f2 f3 f4 f5 f6 f:FuncId)(e:Nat->Int)(hp:(Qm3 Q f).pre [e 0]):Zkq.Xij [Qdv te f0,Qdk f1,Qg1 Q f2,Ql9 f3,Qhe f4,Qmb Q f5,kIs f6] ⟨fun ys=>ys=(Qm3 Q f).sem [e 0],[]⟩ e:=by
 obtain⟨hg,hlit,hq⟩:(e 0=0->(∃n:Nat,Qa7 ((Zo bP 1 Xy+n)%bP))/\b1T.2.2=0)/\(Je (e 0)->(Ui (e 0) 1 Xy).z=0)/\Q 1 Xy:=hp;show Zkq.Xij _ ⟨fun ys=>ys=if Y5 (e 0)then Ky.L (Jb (e 0))++[0]else[0,0,0,0,0,0,0,2],[]⟩ e;refine⟨trivial,fun a1 _ a2 _=>?_⟩;have v1:e 1=bi (Y5 (e 0)):=a1;have b2:=Z6 a2;simp only[Qm]at b2;refine⟨fun h=>?_,fun h=>?_⟩
 ·have hn:¬Y5 (e 0):=fun hs=>by rw[bi,if_pos hs]at v1;omega
  rw[if_neg hn];rfl
 have hs:Y5 (e 0):=by
  by_cases hs:Y5 (e 0)
  ·exact hs
  ·rw[bi,if_neg hs]at v1;omega
 rw[if_pos hs];intro a3 _ a4 _;have v3:e 3=enc Qvt:=by rw[show e 3=enc (dec 0++Qvt)from a3,Qu];rfl
 have d4:dec (e 4)=[enc Qvt]:=by rw[show e 4=enc (dec 0++[e 3])from a4,Qr,Qu,v3];rfl
 refine⟨by show Y6 (dec (e 4))<=65536;rw[d4,Zjs];decide,fun a5 _ a6 _=>?_⟩;have d5:dec (e 5)=Xy:=by rw[show e 5=enc (Z2 (dec (e 4)))from a5,Qr,d4,Zig]
 have l5:(dec (e 5)).length<=65536:=by rw[d5];decide
 have b6:=Zi a6;simp only[Qm,Qp]at b6;refine⟨fun h=>?_,fun h=>?_⟩
 ·have h0:=Zc b6 h;obtain⟨hex,hz⟩:=hg h0;refine⟨hs,fun a7 _=>?_⟩;have v7:e 7=bP:=by rw[show e 7=U0 (e 0)from a7,U0,if_pos h0]
  refine⟨⟨by show e 7%2=1/\3<=e 7/\e 7<2^382;rw[v7];exact Qrz,l5,by show Q 1 (dec (e 5));rw[d5];exact hq⟩,fun a8 _=>?_⟩;have v8:e 8=Zo bP 1 Xy:=by rw[show e 8=Zo (e 7) 1 (dec (e 5))from a8,v7,d5]
  refine⟨by show ∃n:Nat,Qa7 ((e 8+n)%bP);rw[v8];exact hex,fun a9 _ a10 _ a11 _ a12 _=>?_⟩;have v9:e 9=Bg (e 8):=a9;have v10:e 10=(Y0 (Zy (Bg (e 8)))).getD 0 0:=a10;have v11:e 11=0:=a11;refine⟨by show onV (e 9) (e 10) (e 11);rw[v9,v10,v11,v8];exact Zld hex,fun a13 _ a14 _ a15 _ a16 _ a17 _=>?_⟩;have r:((e 13,e 14,e 15):T1)=b1T:=by
   have q:Vg (Xd R1 (rsV (e 9) (e 10) (e 11)) 384 c1C.toNat)=[b1T.1,b1T.2.1,b1T.2.2]:=by rw[v9,v10,v11,v8];rfl
   have w:∀i,(Vg (Xd R1 (rsV (e 9) (e 10) (e 11)) 384 c1C.toNat)++[0]).getD i 0=([b1T.1,b1T.2.1,b1T.2.2,0]:List Int).getD i 0:=fun i=>by rw[q];rfl
   rw[show e 13=(Vg (Xd R1 (rsV (e 9) (e 10) (e 11)) 384 c1C.toNat)++[0]).getD 0 0 from a13,show e 14=(Vg (Xd R1 (rsV (e 9) (e 10) (e 11)) 384 c1C.toNat)++[0]).getD 1 0 from a14,show e 15=(Vg (Xd R1 (rsV (e 9) (e 10) (e 11)) 384 c1C.toNat)++[0]).getD 2 0 from a15,w,w,w];rfl
  have v15:e 15=0:=by have:=congrArg (fun t:T1=>t.2.2) r;exact this.trans hz
  have b17:=Z6 a17;simp only[Qm]at b17;refine⟨fun _=>?_,fun h=>by omega⟩;show[e 0,e 13,e 14,e 15,0,0,0,0]=_;unfold Jb;rw[if_pos h0,h0,<- r];rfl
 ·have h0:=Xf b6 h;have hl:Je (e 0):=by unfold Y5 at hs;unfold Je;omega
  refine⟨⟨hl,l5,by show Q 1 (dec (e 5));rw[d5];exact hq⟩,fun a7 _ a8 _ a9 _ a10 _=>?_⟩;have r:([e 7,e 8,e 9]:List Int)=(Ui (e 0) 1 Xy).l:=by
   rw[<- d5,show e 7=_ from a7,show e 8=_ from a8,show e 9=_ from a9];rfl
  have v9:e 9=0:=by have:=congrArg (fun l:List Int=>l.getD 2 0) r;exact this.trans (hlit hl)
  have b10:=Z6 a10;simp only[Qm]at b10;refine⟨fun _=>?_,fun h=>by omega⟩;show[e 0,0,0,0,e 7,e 8,e 9,0]=_;unfold Jb;rw[if_neg h0];have q:Ky.L ⟨e 0,(0,0,0),Ui (e 0) 1 Xy⟩=[e 0,0,0,0]++(Ui (e 0) 1 Xy).l:=rfl;rw[q,<- r];rfl
def pwF(p a n:Int):Int:=((Np.pm p.toNat 64 a.toNat n.toNat:Nat):Int)
theorem Zpz{p a n:Int}(h:n.toNat<2^64):pwM p a n=pwF p a n:=by unfold pwM pwF;rw[Np.pm_ok _ _ _ _ h]
def Zaz(p x y x' y':Int):Int×Int :=
 if x≠x' then((y'-y)%p*pwF p ((x'-x)%p) (p-2)%p,1)
 else if y≠y'∨y=0 then(0,0)
 else((((x*x%p+x*x%p)%p+x*x%p)%p+1)%p*pwF p ((y+y)%p) (p-2)%p,1)
theorem Zfl{p x y x' y':Int}(h:(p-2).toNat<2^64):Y8 p x y x' y'=Zaz p x y x' y':=by
 unfold Y8 Zaz Qb2;rw[Zpz h,Zpz h]
def Zu4(p:Int)(a b:Pt):Pt :=
 if a.z≠0 then b else if b.z≠0 then a else
 let s:=Zaz p a.x a.y b.x b.y
 if s.2=0 then⟨0,0,1⟩else
 let x:=((s.1*s.1%p-a.x)%p-b.x)%p
 ⟨x,(s.1*((a.x-x)%p)%p-a.y)%p,0⟩
theorem Zsb{p:Int}{a b:Pt}(h:(p-2).toNat<2^64):Xv p a b=Zu4 p a b:=by
 unfold Xv Zu4;rw[Zfl h]
def Xcl(p:Int)(a:Pt):Nat->Nat->Pt
 |0,_=>⟨0,0,1⟩
 |k+1,n=>if n=0 then⟨0,0,1⟩else
  let h:=Xcl p a k (n/2)
  let d:=Zu4 p h h
  if n%2=1 then Zu4 p d a else d
theorem J3{p:Int}{a:Pt}(h:(p-2).toNat<2^64):∀k n,Zs p a k n=Xcl p a k n
 |0,_=>rfl
 |k+1,n=>by
  unfold Zs Xcl;rw[J3 h k (n/2)];simp only[Zsb h]
theorem Zsw:inP (pL 2) (Xr 2) 613740293506734924 666621259561003659 0:=by
 refine⟨by decide,?_⟩;rw[J3 (by decide)];decide +kernel
theorem Xef:Y4 0 g1X g1Y 0 0 0 0:=by
 refine .inl ⟨rfl,⟨rfl,rfl,rfl⟩,⟨⟨by decide,by decide⟩,?_⟩,?_⟩
 ·rw[if_pos rfl];decide +kernel
 ·rw[show rsV g1X g1Y 0=⟨g1X,g1Y,1⟩ by unfold rsV;rw[if_pos rfl]];decide +kernel
theorem Xes:Y4 1 0 0 0 9723 164643 0:=.inr ⟨.inl rfl,⟨rfl,rfl,rfl⟩,Zee⟩
theorem Xdi:Y4 2 0 0 0 613740293506734924 666621259561003659 0:=.inr ⟨.inr rfl,⟨rfl,rfl,rfl⟩,Zsw⟩
def t1T:List Int:=[0,0,0,1,1]
def pwB(a:Int)(e:Nat):Int:=((Np.pm bP.toNat 384 a.toNat e:Nat):Int)
theorem Qzq{a:Int}{e:Nat}(h0:0<=a)(he:e<2^384):a^e%bP=pwB a e:=by
 unfold pwB;rw[Np.pm_ok _ _ _ _ he,H3,L0,Hf h0];rfl
theorem Zl1(a:Int){e:Nat}(he:e<2^384):a^e%bP=pwB (a%bP) e:=by
 rw[<- Qzq (Zl Q5).1 he];exact(J7 (Ms _ (L5 _)) e).symm
theorem Zw3:eR<2^384:=by decide +kernel
theorem Zxp:(bP-2).toNat<2^384:=by decide +kernel
theorem Qwc(x:Int):0<=Zy x:=(Zl Q5).1
def Zdd(x:Int):Bool:=pwB (Zy x) eR*pwB (Zy x) eR%bP==Zy x%bP
theorem Qzd{x:Int}:Qa7 x↔Zdd x=true:=by
 unfold Qa7 sqV Zdd rtV;rw[Qzq (Qwc x) Zw3,beq_iff_eq]
theorem Qhs{h:Int->Prop}{p x:Int}{k:Nat}(h1:h ((x+k)%p))(h2:∀m,m<k->¬h ((x+m)%p)):Ys h p x=k:=Qh0 h1 h2
theorem Zfm{x:Int}{k:Nat}(h1:Zdd ((x+k)%bP)=true)(h2:(List.range k).all (fun m=>!Zdd ((x+m)%bP))=true):Wm x=k :=
 Qhs (Qzd.2 h1) fun m hm h=>by
  have:=Mp.1 h2 m (H2.2 hm);rw[Qzd.1 h]at this;cases this
theorem Zg2{a y r:Int}(hr:pwB (Zy a) eR=r)(h1:r*r%bP=Zy a%bP)(h2:Qj7 r=y):(Y0 (Zy a)).getD 0 0=y:=by
 have hr:rtV (Zy a)=r:=by rw[<- hr];unfold rtV;exact Qzq (Qwc a) Zw3
 have hs:sqV (Zy a):=by unfold sqV;rw[hr];exact h1
 unfold Y0;rw[if_pos hs];show Qj7 (rtV (Zy a))=y;rw[hr];exact h2
def Zwp(P:J Int):T1 :=
 if P.z%bP=0 then(0,0,1)else
 let i:=pwB (P.z%bP) (bP-2).toNat
 (P.x*(i*i)%bP,P.y*(i*i*i)%bP,0)
theorem Zyz(P:J Int):Qnu P=Zwp P:=by
 unfold Qnu Zwp Qan;by_cases h:P.z%bP=0
 ·rw[if_pos h,if_pos h];rfl
 ·rw[if_neg h,if_neg h];have hi:=Zl1 P.z Zxp;have hp:pwB (P.z%bP) (bP-2).toNat%bP=pwB (P.z%bP) (bP-2).toNat:=by rw[<- hi,Ms _ (L5 _)]
  generalize pwB (P.z%bP) (bP-2).toNat=i at *
  show((P.x*(P.z^(bP-2).toNat*P.z^(bP-2).toNat))%bP,(P.y*(P.z^(bP-2).toNat*P.z^(bP-2).toNat*P.z^(bP-2).toNat))%bP,0)=_;generalize P.z^(bP-2).toNat=z at *
  have e1:z*z%bP=i*i%bP:=by rw[M3,hi,M3 i i,hp]
  have e2:z*z*z%bP=i*i*i%bP:=by rw[M3,e1,hi,M3 (i*i) i,hp]
  congr 1
  ·rw[M3,e1,<- M3]
  ·congr 1;rw[M3,e2,<- M3]
theorem Zvk{p:Nat}(hp:Np.isP p)(h2:p%2=1)(h3:3<=p){a1 a2 y1 y2:Int}(e1:a1%p=(y1*y1-y2*y2)%p)(e2:a2%p=(y1*y2+y2*y1)%p):((a1*a1+a2*a2)%p).toNat^((p-1)/2)%p≠p-1:=by
 intro h;obtain⟨m,hm⟩:∃m:Nat,(m:Int)=(y1*y1+y2*y2)%p:=⟨((y1*y1+y2*y2)%p).toNat,Hf (Mr _ (by omega))⟩
 have hn:(a1*a1+a2*a2)%p=((m*m%p:Nat):Int):=by
  rw[H3,Int.natCast_mul,hm,<- M3,Oai,M3 a1,e1,M3 a2,e2,<- M3,<- M3,<- Oai];congr 1
  grind
 rw[hn,O9,<- Nat.pow_mod,Nat.mul_pow,<- Nat.pow_add,show(p-1)/2+(p-1)/2=p-1 by omega]at h;by_cases hd:p∣m
 ·have:m^(p-1)%p=0:=by
   refine Nat.mod_eq_zero_of_dvd (Nat.dvd_trans hd ?_);rw[show p-1=p-2+1 by omega,Nat.pow_succ];exact Nat.dvd_mul_left _ _
  omega
 ·have:=Np.fermat hp hd;omega
theorem Ztk:((bP-1)/2).toNat<2^384:=by decide +kernel
theorem Xcd:∃p:Nat,Np.isP p/\bP=(p:Int)/\p%2=1/\3<=p:=⟨Np.nP,Np.p_base,by decide +kernel,by decide +kernel,by decide +kernel⟩
theorem Xbw{a:E2}(h:Np.pm bP.toNat 384 ((a.1*a.1+a.2*a.2)%bP).toNat ((bP-1)/2).toNat=(bP-1).toNat):¬Wt a:=by
 rintro ⟨y,hy1,hy2⟩
 rw[Np.pm_ok _ _ _ _ Ztk]at h;have hy1:(y.1*y.1-y.2*y.2)%bP=a.1%bP:=hy1;have hy2:(y.1*y.2+y.2*y.1)%bP=a.2%bP:=hy2;obtain⟨p,hp,hb,h2,h3⟩:=Xcd;rw[hb]at h hy1 hy2;refine Zvk hp h2 h3 hy1.symm hy2.symm ?_;rwa[O9,show(((p:Int)-1)/2).toNat=(p-1)/2 by omega,show((p:Int)-1).toNat=p-1 by omega]at h
def Xfg(b x:Int):Bool:=Np.pm bP.toNat 384 (((X2 (x,b)).1*(X2 (x,b)).1+(X2 (x,b)).2*(X2 (x,b)).2)%bP).toNat ((bP-1)/2).toNat==(bP-1).toNat
theorem Zi1{b x:Int}{k:Nat}(h1:Uk b ((x%bP+k)%bP))(h2:(List.range k).all (fun m=>Xfg b ((x%bP+m)%bP))=true):Ys (Uk b) bP (x%bP)=k :=
 Qhs h1 fun m hm h=>by
  have:=Mp.1 h2 m (H2.2 hm);exact Xbw (by simpa[Xfg]using this) h
theorem Zsc{a y:E2}(h1:(0<=y.1/\y.1<bP)/\0<=y.2/\y.2<bP)(h2:(R2.mul y y).1%bP=a.1%bP/\(R2.mul y y).2%bP=a.2%bP)(h3:We y=y):rt2 a=y:=by
 rw[Qij (y:=y) h1 h2];exact h3
def Zgl(a b:Int):Int:=pwB ((a*a+b*b)%bP) (bP-2).toNat
def Zw5(A:E2):E2:=(A.1*Zgl A.1 A.2,-(A.2*Zgl A.1 A.2))
theorem Zwv(a b:Int):nrm a b%bP=Zgl a b%bP:=by
 have h:=Zl1 (a*a+b*b) Zxp;unfold nrm Zgl;rw[<- h,Ms _ (L5 _)]
theorem Xcq(A:E2):S2 (Zq A) (Zw5 A):=by
 refine⟨?_,?_⟩
 ·show A.1*nrm A.1 A.2%bP=A.1*Zgl A.1 A.2%bP;rw[M3,Zwv,<- M3]
 ·show(-(A.2*nrm A.1 A.2))%bP=(-(A.2*Zgl A.1 A.2))%bP;rw[<- Int.neg_mul,<- Int.neg_mul,M3,Zwv,<- M3]
def Zj6(P:J E2):T2 :=
 if P.z.1%bP=0/\P.z.2%bP=0 then((0,0),(0,0),1)else
 let i:=Zw5 P.z
 (R2.md (R2.mul P.x (R2.mul i i)),R2.md (R2.mul P.y (R2.mul (R2.mul i i) i)),0)
theorem Zo0(P:J E2):Qc3 P=Zj6 P:=by
 unfold Qc3 Zj6 Qaq Qkd;by_cases h:P.z.1%bP=0/\P.z.2%bP=0
 ·rw[if_pos h,if_pos h,if_pos h];rfl
 ·rw[if_neg h,if_neg h,if_neg h];have hi:=Xcq P.z;have h2:=Q4 hi hi;have h3:=Q4 h2 hi;show(R2.md _,R2.md _,0)=_;rw[Qct (Q4 (⟨rfl,rfl⟩:S2 P.x P.x) h2),Qct (Q4 (⟨rfl,rfl⟩:S2 P.y P.y) h3)]
theorem Qtb(t:T2)(n:Nat):G2.mul t n=Zj6 (Xd R2 (rsU t) 384 n):=Zo0 _
def Zxo(t u:T2)(m n:Int):J E2:=J.md R2 (Xb R2 (J.md R2 (Xb R2 (oJ R2) (Xd R2 (rsU t) 384 m.toNat))) (Xd R2 (rsU u) 384 n.toNat))
theorem Xer(t:T2):rsW (enc (T2.L t))=rsU t:=by
 unfold rsW cq;rw[Qr];rfl
theorem Xbo(t u:T2)(m n:Int):Jk [enc (T2.L t),enc (T2.L u)] [m,n]=Zxo t u m n:=by
 unfold Jk Zxo;simp only[List.zip_cons_cons,List.zip_nil_right,List.foldl_cons,List.foldl_nil,Xer]
theorem Qg7{p x:Int}(h:((p+1)/4).toNat<2^64):Ws p x=pwF p (Yz p x) ((p+1)/4):=Zpz h
def Zbq(p x:Int):Bool:=pwF p (Yz p x) ((p+1)/4)*pwF p (Yz p x) ((p+1)/4)%p==Yz p x
theorem Znv{p x:Int}(h:((p+1)/4).toNat<2^64):Qj0 p x↔Zbq p x=true:=by
 unfold Qj0 Zbq;rw[Qg7 h,beq_iff_eq]
theorem Qdx{p x:Int}{k:Nat}(h:((p+1)/4).toNat<2^64)(h1:Zbq p ((x+k)%p)=true)(h2:(List.range k).all (fun m=>!Zbq p ((x+m)%p))=true):Xu p x=k :=
 Qhs ((Znv h).2 h1) fun m hm hh=>by
  have:=Mp.1 h2 m (H2.2 hm);rw[(Znv h).1 hh]at this;cases this
theorem Zf6:Qos 1 Xy=[156,193,120,75,126,167,191,185,62,73,123,31,180,131,246,132,162,96,121,190,177,20,163,189,119,95,114,49,109,214,78,148,135,134,241,152,39,61,2,158,243,114,10,46,61,176,111,217,108,217,109,17,2,237,91,96,212,103,243,118,68,32,78,239]:=by decide +kernel
def Zsv:Int:=8209964367307600483737764727693251542398147923090081314609783245123101296759141656160642923201469279153389924896658624023485712046649314070471755241115375
theorem W6(n:Int):Zo n 1 Xy=Zsv%n:=by unfold Zo;rw[Zf6];congr 1
theorem Zvl:Qos 3 t1T=[216,175,118,39,26,159,168,97,8,17,106,86,177,72,242,6,75,5,193,221,129,133,13,205,254,233,54,239,244,120,188,87,152,64,6,242,7,219,12,79,210,20,31,231,118,85,249,165,26,240,35,86,228,141,192,201,41,201,108,94,236,100,83,148]:=by decide +kernel
def Zv0:Int:=11348735074515989502152495501445444421043653076890612727898009639203663170940114699160009958145962834117665151132379659021779106460176682362821458956407700
theorem Bs(n:Int):Zo n 3 t1T=Zv0%n:=by unfold Zo;rw[Zvl];congr 1
theorem Zuh:Qos 4 t1T=[14,151,198,228,80,196,255,36,131,176,224,179,49,204,199,169,18,42,238,221,70,159,242,204,184,175,2,52,98,42,115,140,11,141,230,98,16,137,66,194,222,67,65,0,127,11,251,150,90,178,54,145,153,52,119,36,120,231,50,82,168,162,168,182]:=by decide +kernel
def Zxn:Int:=764291067964873687503964988069131329254032228479979189843492541112584626225985049155502351337069947930589633556784094673107975517792190373467692330035382
theorem Ql7(n:Int):Zo n 4 t1T=Zxn%n:=by unfold Zo;rw[Zuh];congr 1
theorem Zuf:Wm (Zo bP 1 Xy)=2:=by rw[W6];exact Zfm (by decide +kernel) (by decide +kernel)
theorem Zma:∃n:Nat,Qa7 ((Zo bP 1 Xy+n)%bP):=⟨2,by rw[W6];exact Qzd.2 (by decide +kernel)⟩
def b1L:T1:=(279930474868442473630567356338429428250735803592123545876525104187807200091716889891335442719255611510491873059340,1423336161314313683277561321429369027433134718768402962372640125080637992912635589727461466358803308787585136716373,0)
theorem Xha:Bg (Zo bP 1 Xy)=1690172773741074998109118393156266151787626533761946883743937606161292880304703895001165032686606493615544336323845:=by unfold Bg;rw[Zuf,W6];decide +kernel
theorem Xgp:(Y0 (Zy 1690172773741074998109118393156266151787626533761946883743937606161292880304703895001165032686606493615544336323845)).getD 0 0=1801767940003357883144434856633796741371312314661039573599828250934526094703223950827325939626110835364918936293612:=Zg2 (r:=2200641615218309510273354969102107415185570505277968311732229885189505555787613913615361689502904828672975336266175) (by decide +kernel) (by decide +kernel) (by decide +kernel)
theorem Zwx:b1T=b1L:=by unfold b1T;rw[Xha,Xgp,Zyz];decide +kernel
theorem Qv3:Uk (Zxn%bP) ((Zv0%bP+((4:Nat):Int))%bP):=⟨(852335139106707221317922897141714142418937379585934406170276479644210909922151713324532646489646519424812308593046,1633971090012215940070477772809923746391894818628210749773432920591698951954358818826572231110018951013652448220859),by decide +kernel,by decide +kernel⟩
theorem Qyb:Qtn t1T:=⟨4,by rw[Bs,Ql7,Ms _ (L5 _)];exact Qv3⟩
theorem Zfz:Qe6 (Zo bP 3 t1T) (Zo bP 4 t1T)=4:=by
 rw[Bs,Ql7];unfold Qe6;rw[Ms _ (L5 _)];exact Zi1 Qv3 (by decide +kernel)
def Xfq:T2:=(((545468050998865805986096837415983097587747065729703630033448985061755462419943989291078790232979170420983043323193,1147602380860921283513354264477375379122955193922211560597566655650412802748393275571352580136086877134953455298837),(852335139106707221317922897141714142418937379585934406170276479644210909922151713324532646489646519424812308593046,1633971090012215940070477772809923746391894818628210749773432920591698951954358818826572231110018951013652448220859),0):T2)
theorem Zsa:Qae (Zo bP 3 t1T) (Zo bP 4 t1T)=Xfq:=by
 have hx:Qmj (Zo bP 3 t1T) (Zo bP 4 t1T)=545468050998865805986096837415983097587747065729703630033448985061755462419943989291078790232979170420983043323193:=by unfold Qmj;rw[Zfz,Bs];decide +kernel
 have hb:Zo bP 4 t1T%bP=1147602380860921283513354264477375379122955193922211560597566655650412802748393275571352580136086877134953455298837:=by rw[Ql7];decide +kernel
 unfold Qae;rw[hx,hb,Zsc (y:=(852335139106707221317922897141714142418937379585934406170276479644210909922151713324532646489646519424812308593046,1633971090012215940070477772809923746391894818628210749773432920591698951954358818826572231110018951013652448220859)) (by decide +kernel) (by decide +kernel) (by decide +kernel)];rfl
def Zwy:T2:=(((154579003588709592825514719035659608809323744297885918075950931206360098055056256815447434853418847214318377972571,2495037440019592289212481666118057764453983828721625045065375015831277106845302933048894025814539717986092594795533),(1086499303123315409735620365061890936866735171222740684564355981365902147671198836055367001551771378045817205186810,3895329152031186346507935076457127294692880899550146890964435374668220801354851181668047623685579215661254203741747),0):T2)
theorem Zms:G2.mul Xfq c2H.toNat=Zwy:=by rw[Qtb];decide +kernel
def Zx9:T2:=(((595902329383441949300344979110087508482793478741236937506408576746961309006758090251474389233700502269386929679736,1598004751792842571428659414046105427843362160299191401986638044088884032185299426799456874810372925652170104540330),(2239778263772948618986580438011814771804598586860471846393158358627702721247139893335291888767046981094065888200241,478500971460547884824941933081764049433537472784207996205166424988550805304016506802776138195175196971252406574687),0):T2)
theorem Zjm:G2.mul Zwy cSh.toNat=Zx9:=by rw[Qtb];decide +kernel
def Xfe:T2:=(((984568837690699894380517648552775387962770640369145377549957435594827439377735408972922296408474603426557573355679,3242902685732776268898612060395760675832073395492026261532319900243780736917386904962135361441714952926671325226433),(3736202466242853489423369468519053690164519612452428275083402428253681650275608082895460022156200684222761270241358,2506095515668192557696647945279938019661553507869318528057353674711639565280993383776931941778005941252709592201624),0):T2)
theorem Zju:G2.mul Zx9 cSh.toNat=Xfe:=by rw[Qtb];decide +kernel
def Qwz:T2:=(((3378321724859220793313031388299937350721219227102046527384056541302955551793148694048181048799316441744923415119039,3758150620489639329285087033565779604214597346056760909585617707609686035652565746774933595323688753646941099679363),(2312846786508480578817447292455878954506206556659969696433499448753233966398991068885970008624828724461421318586496,3652505832397416623619795095463243710457022427073141695665933922239683774180481727110715514607875188729735344009461),0):T2)
theorem Zt9:Qx7 (Qae (Zo bP 3 t1T) (Zo bP 4 t1T))=Qwz:=by
 rw[Zsa];unfold Qx7 hi3;rw[Zms,Zjm,Zju,Xbo,Zo0];decide +kernel
theorem Zu5:Qzb Qwz.1.1 Qwz.1.2 Qwz.2.1.1 Qwz.2.1.2 Qwz.2.2:=by
 refine⟨⟨by decide +kernel,?_⟩,by decide +kernel⟩;rw[if_pos (show Qwz.2.2=0 from rfl)];decide +kernel
theorem Qrt:Xu 786251 (Zo 786251 1 Xy)=0:=by rw[W6];exact Qdx (by decide) (by decide +kernel) (by decide +kernel)
theorem Qm0:Ui 1 1 Xy=⟨680769,739834,0⟩:=by
 show Zs 786251 (Qgq 786251 (Zo 786251 1 Xy)) 64 12=_;unfold Qgq;rw[Qrt,W6,J3 (by decide),Qg7 (by decide)];decide +kernel
theorem Qy9:inP 786251 65521 680769 739834 0:=by
 refine⟨?_,?_⟩
 ·unfold Bp;rw[if_pos rfl];decide +kernel
 ·rw[J3 (by decide)];decide +kernel
theorem Qze:Xu 786251 (Zo 786251 3 t1T)=2:=by rw[Bs];exact Qdx (by decide) (by decide +kernel) (by decide +kernel)
theorem Zp6:Ui 1 3 t1T=⟨190820,751250,0⟩:=by
 show Zs 786251 (Qgq 786251 (Zo 786251 3 t1T)) 64 12=_;unfold Qgq;rw[Qze,Bs,J3 (by decide),Qg7 (by decide)];decide +kernel
theorem Zk5:inP 786251 65521 190820 751250 0:=by
 refine⟨?_,?_⟩
 ·unfold Bp;rw[if_pos rfl];decide +kernel
 ·rw[J3 (by decide)];decide +kernel
theorem Qro:Xu 1152921504606846223 (Zo 1152921504606846223 1 Xy)=0:=by rw[W6];exact Qdx (by decide) (by decide +kernel) (by decide +kernel)
theorem Qlw:Ui 2 1 Xy=⟨275425563242282422,1019764028308248193,0⟩:=by
 show Zs 1152921504606846223 (Qgq 1152921504606846223 (Zo 1152921504606846223 1 Xy)) 64 16=_;unfold Qgq;rw[Qro,W6,J3 (by decide),Qg7 (by decide)];decide +kernel
theorem Zaj:inP 1152921504606846223 72057594037927889 275425563242282422 1019764028308248193 0:=by
 refine⟨?_,?_⟩
 ·unfold Bp;rw[if_pos rfl];decide +kernel
 ·rw[J3 (by decide)];decide +kernel
theorem Qzj:Xu 1152921504606846223 (Zo 1152921504606846223 3 t1T)=2:=by rw[Bs];exact Qdx (by decide) (by decide +kernel) (by decide +kernel)
theorem Zjb:Ui 2 3 t1T=⟨940922117766923706,300619284755947125,0⟩:=by
 show Zs 1152921504606846223 (Qgq 1152921504606846223 (Zo 1152921504606846223 3 t1T)) 64 16=_;unfold Qgq;rw[Qzj,Bs,J3 (by decide),Qg7 (by decide)];decide +kernel
theorem Zq4:inP 1152921504606846223 72057594037927889 940922117766923706 300619284755947125 0:=by
 refine⟨?_,?_⟩
 ·unfold Bp;rw[if_pos rfl];decide +kernel
 ·rw[J3 (by decide)];decide +kernel
def Qgt(s:Int)(l:List Int):List Int:=l.map (·% Xr s)
noncomputable def Qcs(te:TypeId)(f:FuncId):K:={fn:=f,ext:=false,ins:=[iI,.lst .num],outs:=[.lst te .num],pre:=fun|[s,l]=>Y5 s/\(dec l).length<=1000|_=>False,sem:=fun|[s,l]=>[enc (Qgt s (dec l))]|_=>[] }
def Qvj:Qn:=(xw 0 [.v 0] 2 qsa
(.loop [.n 0,.n 0] [kI,(.lst .num)] 4
(.l 6 kI (.llen (.v 1))
(.l 7 .bit (.c .lss (.v 4) (.v 6))
(.split 7
(.l 104 kI (.llen (.v 1))
(.l 105 .bit (.c .leq (.n 0) (.v 4))
(.l 106 .bit (.c .lss (.v 4) (.v 104))
(.nz (.v 105)
(.nz (.v 106)
(.l 152 .num (.lget (.v 1) (.v 4))
(xw 1 [.v 152,.v 2] 248 [.num,.num,kI]
(.l 728 kI (.llen (.v 5))
(.l 729 .bit (.c .lss (.v 728) (.n 4294967296))
(.nz (.v 729)
(.l 730 (.lst .num) (.lapp (.v 5) [.v 249])
(.l 731 kI (.b .add .i64 (.v 4) (.n 1))
(.back 0 [.v 731,.v 730])))))))))))))
(.ret [.v 5]))))))
theorem Qv4(te:TypeId)(f1 f2 f:FuncId)(e:Nat->Int)(hp:(Qcs te f).pre [e 0,e 1]):Qvj.Xij [Qgn f1,Qkl f2] ⟨fun ys=>ys=(Qcs te f).sem [e 0,e 1],[]⟩ e:=by
 obtain⟨hs,hl⟩:Y5 (e 0)/\(dec (e 1)).length<=1000:=hp;show Qvj.Xij _ ⟨fun ys=>ys=[enc (Qgt (e 0) (dec (e 1)))],[]⟩ e;refine⟨trivial,fun a2 _ a3 _=>?_⟩;have v2:e 2=Xr (e 0):=by
  rw[show e 2=(if Y5 (e 0)then[Xr (e 0),0]else[0,2]).getD 0 0 from a2,if_pos hs];rfl
 have hr:=Vv (e 0);obtain⟨l,d1⟩:∃l,dec (e 1)=l:=⟨_,rfl⟩
 rw[d1]at hl ⊢;refine⟨fun|[i,x]=>(0<=i/\i<=l.length)/\x=enc (Qgt (e 0) (l.take i.toNat))|_=>False,fun|[i,_]=>(l.length-i).toNat|_=>0,⟨⟨Int.le_refl _,(show(0:Int)<=l.length by omega)⟩,(show(0:Int)=enc []from rfl)⟩,fun e' he hkk hI=>?_⟩;obtain⟨⟨i0,i1⟩,i2⟩:(0<=e' 4/\e' 4<=l.length)/\e' 5=enc (Qgt (e 0) (l.take (e' 4).toNat)):=hI;have d1:=(congrArg dec (he 1 (by decide))).trans d1;have v2:=(he 2 (by decide)).trans v2;have d5:=(congrArg dec i2).trans (Qr _);intro a6 _ a7 _;have v6:e' 6=(l.length:Int):=by rw[<- d1];exact a6
 have b7:=Va a7;simp only[Qm,Qp]at b7;refine⟨fun h=>?_,fun h=>?_⟩
 ·have c7:e' 4<l.length:=by have:=Zc b7 h;omega
  intro a104 _ a105 _ a106 _;have v104:e' 104=(l.length:Int):=by rw[<- d1];exact a104
  have hit:(e' 4).toNat<l.length:=by omega
  refine⟨Zb a105 i0,Zk a106 (by show e' 4<e' 104;omega),fun a152 _=>⟨trivial,fun a248 _ a249 _ a250 _ a728 _ a729 _=>?_⟩⟩;have v152:e' 152=l.getD (e' 4).toNat 0:=by rw[<- d1];exact a152
  have v249:e' 249=e' 152%Xr (e 0):=by
   rw[show e' 249=(if e' 2=0 then[0,0,2]else[e' 152/e' 2,e' 152%e' 2,0]).getD 1 0 from a249,v2,if_neg (show ¬Xr (e 0)=0 by omega)];rfl
  have v728:e' 728=((dec (e' 5)).length:Int):=a728;have l5:(dec (e' 5)).length=(e' 4).toNat:=by rw[d5];unfold Qgt;rw[Mn,Mi];omega
  refine⟨Zk a729 (by show e' 728<4294967296;omega),fun a730 _ a731 _=>?_⟩;have v731:=Zi3 (a:=e' 4) (b:=1) a731 (by omega);show((0<=e' 731/\e' 731<=l.length)/\e' 730=enc (Qgt (e 0) (l.take (e' 731).toNat)))/\(l.length-e' 731).toNat<(l.length-e' 4).toNat;refine⟨⟨⟨by omega,by omega⟩,?_⟩,by omega⟩;rw[show e' 730=enc (dec (e' 5)++[e' 249])from a730,d5,v731,show(e' 4+1).toNat=(e' 4).toNat+1 by omega,Znt hit,v249,v152];unfold Qgt;rw[Kf];rfl
 ·have c7:=Xf b7 h;show[e' 5]=_;rw[i2,O8 (by omega)]
theorem Qma{k:Ky}{L:List Int}(h:L=k.L++[0]){x0 x1 x2 x3 x4 x5 x6 x7:Int}(h0:x0=L.getD 0 0)(h1:x1=L.getD 1 0)(h2:x2=L.getD 2 0)(h3:x3=L.getD 3 0)(h4:x4=L.getD 4 0)(h5:x5=L.getD 5 0)(h6:x6=L.getD 6 0)(h7:x7=L.getD 7 0):Ky.mk x0 (x1,x2,x3) ⟨x4,x5,x6⟩=k/\x7=0:=by
 subst h;subst h0 h1 h2 h3 h4 h5 h6 h7;exact⟨rfl,rfl⟩
theorem Qzm{k:Sg}{L:List Int}(h:L=k.L++[0]){x0 x1 x2 x3 x4 x5 x6 x7 x8 x9:Int}(h0:x0=L.getD 0 0)(h1:x1=L.getD 1 0)(h2:x2=L.getD 2 0)(h3:x3=L.getD 3 0)(h4:x4=L.getD 4 0)(h5:x5=L.getD 5 0)(h6:x6=L.getD 6 0)(h7:x7=L.getD 7 0)(h8:x8=L.getD 8 0)(h9:x9=L.getD 9 0):Sg.mk x0 ((x1,x2),(x3,x4),x5) ⟨x6,x7,x8⟩=k/\x9=0:=by
 subst h;subst h0 h1 h2 h3 h4 h5 h6 h7 h8 h9;exact⟨rfl,rfl⟩
section
variable {k k':Ky}{a0 a1 a2 a3 a4 a5 a6 b0 b1 b2 b3 b4 b5 b6 n x0 x1 x2 x3 x4 x5 x6 x7:Int}
theorem Qdf(hk:Ky.mk a0 (a1,a2,a3) ⟨a4,a5,a6⟩=k)(h:k.Is)(hn:n<Xr k.s)(h0:x0=(Vs a0 a1 a2 a3 a4 a5 a6 n).getD 0 0)(h1:x1=(Vs a0 a1 a2 a3 a4 a5 a6 n).getD 1 0)(h2:x2=(Vs a0 a1 a2 a3 a4 a5 a6 n).getD 2 0)(h3:x3=(Vs a0 a1 a2 a3 a4 a5 a6 n).getD 3 0)(h4:x4=(Vs a0 a1 a2 a3 a4 a5 a6 n).getD 4 0)(h5:x5=(Vs a0 a1 a2 a3 a4 a5 a6 n).getD 5 0)(h6:x6=(Vs a0 a1 a2 a3 a4 a5 a6 n).getD 6 0)(h7:x7=(Vs a0 a1 a2 a3 a4 a5 a6 n).getD 7 0):Ky.mk x0 (x1,x2,x3) ⟨x4,x5,x6⟩=k.mul n.toNat/\x7=0 :=
 Qma (L:=Vs a0 a1 a2 a3 a4 a5 a6 n) (by subst hk;exact Znj (Ky.Xi9 h).1 hn) h0 h1 h2 h3 h4 h5 h6 h7
theorem Qha(hk:Ky.mk a0 (a1,a2,a3) ⟨a4,a5,a6⟩=k)(hk':Ky.mk b0 (b1,b2,b3) ⟨b4,b5,b6⟩=k')(h:k.Is)(h':k'.Is)(hs:k.s=k'.s)(h0:x0=(Vu a0 a1 a2 a3 a4 a5 a6 b0 b1 b2 b3 b4 b5 b6).getD 0 0)(h1:x1=(Vu a0 a1 a2 a3 a4 a5 a6 b0 b1 b2 b3 b4 b5 b6).getD 1 0)(h2:x2=(Vu a0 a1 a2 a3 a4 a5 a6 b0 b1 b2 b3 b4 b5 b6).getD 2 0)(h3:x3=(Vu a0 a1 a2 a3 a4 a5 a6 b0 b1 b2 b3 b4 b5 b6).getD 3 0)(h4:x4=(Vu a0 a1 a2 a3 a4 a5 a6 b0 b1 b2 b3 b4 b5 b6).getD 4 0)(h5:x5=(Vu a0 a1 a2 a3 a4 a5 a6 b0 b1 b2 b3 b4 b5 b6).getD 5 0)(h6:x6=(Vu a0 a1 a2 a3 a4 a5 a6 b0 b1 b2 b3 b4 b5 b6).getD 6 0)(h7:x7=(Vu a0 a1 a2 a3 a4 a5 a6 b0 b1 b2 b3 b4 b5 b6).getD 7 0):Ky.mk x0 (x1,x2,x3) ⟨x4,x5,x6⟩=k.add k'/\x7=0 :=
 Qma (L:=Vu a0 a1 a2 a3 a4 a5 a6 b0 b1 b2 b3 b4 b5 b6) (by subst hk hk';exact Zn8 (Ky.Xi9 h).1 (Ky.Xi9 h').1 hs) h0 h1 h2 h3 h4 h5 h6 h7
theorem Zk7(hk:Ky.mk a0 (a1,a2,a3) ⟨a4,a5,a6⟩=k)(h:k.Is)(h0:x0=(Vz a0 a1 a2 a3 a4 a5 a6).getD 0 0)(h1:x1=(Vz a0 a1 a2 a3 a4 a5 a6).getD 1 0)(h2:x2=(Vz a0 a1 a2 a3 a4 a5 a6).getD 2 0)(h3:x3=(Vz a0 a1 a2 a3 a4 a5 a6).getD 3 0)(h4:x4=(Vz a0 a1 a2 a3 a4 a5 a6).getD 4 0)(h5:x5=(Vz a0 a1 a2 a3 a4 a5 a6).getD 5 0)(h6:x6=(Vz a0 a1 a2 a3 a4 a5 a6).getD 6 0)(h7:x7=(Vz a0 a1 a2 a3 a4 a5 a6).getD 7 0):Ky.mk x0 (x1,x2,x3) ⟨x4,x5,x6⟩=k.neg/\x7=0 :=
 Qma (L:=Vz a0 a1 a2 a3 a4 a5 a6) (by subst hk;exact Zjv (Ky.Xi9 h).1) h0 h1 h2 h3 h4 h5 h6 h7
theorem Qw4{k:Ky}(hk:Ky.mk a0 (a1,a2,a3) ⟨a4,a5,a6⟩=k)(h:k.ok):bj (Y4 a0 a1 a2 a3 a4 a5 a6)=1:=by
 subst hk;exact Qbp h
end
section
variable {k k':Sg}{a0 a1 a2 a3 a4 a5 a6 a7 a8 b0 b1 b2 b3 b4 b5 b6 b7 b8 n x0 x1 x2 x3 x4 x5 x6 x7 x8 x9:Int}
theorem Qn9(hk:Sg.mk a0 ((a1,a2),(a3,a4),a5) ⟨a6,a7,a8⟩=k)(h:k.Is)(hn:n<Xr k.s){L:List Int}(hL:L=Qiv a0 a1 a2 a3 a4 a5 a6 a7 a8 n)(h0:x0=L.getD 0 0)(h1:x1=L.getD 1 0)(h2:x2=L.getD 2 0)(h3:x3=L.getD 3 0)(h4:x4=L.getD 4 0)(h5:x5=L.getD 5 0)(h6:x6=L.getD 6 0)(h7:x7=L.getD 7 0)(h8:x8=L.getD 8 0)(h9:x9=L.getD 9 0):Sg.mk x0 ((x1,x2),(x3,x4),x5) ⟨x6,x7,x8⟩=k.mul n.toNat/\x9=0 :=
 Qzm (L:=L) (by subst hk hL;exact Zpx (Sg.Xi9 h).1 hn) h0 h1 h2 h3 h4 h5 h6 h7 h8 h9
theorem Zpk(hk:Sg.mk a0 ((a1,a2),(a3,a4),a5) ⟨a6,a7,a8⟩=k)(hk':Sg.mk b0 ((b1,b2),(b3,b4),b5) ⟨b6,b7,b8⟩=k')(h:k.Is)(h':k'.Is)(hs:k.s=k'.s){L:List Int}(hL:L=Qh6 a0 a1 a2 a3 a4 a5 a6 a7 a8 b0 b1 b2 b3 b4 b5 b6 b7 b8)(h0:x0=L.getD 0 0)(h1:x1=L.getD 1 0)(h2:x2=L.getD 2 0)(h3:x3=L.getD 3 0)(h4:x4=L.getD 4 0)(h5:x5=L.getD 5 0)(h6:x6=L.getD 6 0)(h7:x7=L.getD 7 0)(h8:x8=L.getD 8 0)(h9:x9=L.getD 9 0):Sg.mk x0 ((x1,x2),(x3,x4),x5) ⟨x6,x7,x8⟩=k.add k'/\x9=0 :=
 Qzm (L:=L) (by subst hk hk' hL;exact Zq7 (Sg.Xi9 h).1 (Sg.Xi9 h').1 hs) h0 h1 h2 h3 h4 h5 h6 h7 h8 h9
theorem Qwb{k:Sg}(hk:Sg.mk a0 ((a1,a2),(a3,a4),a5) ⟨a6,a7,a8⟩=k)(h:k.ok):bj (Up a0 a1 a2 a3 a4 a5 a6 a7 a8)=1:=by
 subst hk;exact Qbp h
end
set_option maxHeartbeats 4000000
theorem Qmy(a:Int){r:Int}(h:0<r):0<=a%r/\a%r<r:=⟨Mr _ (by omega),Mt _ h⟩
theorem Qry{s:Int}(h:Y5 s):s=0∨s=1∨s=2:=by unfold Y5 at h;omega
def Qer(s:Int):Ky:=if s=0 then⟨0,(g1X,g1Y,0),⟨0,0,0⟩⟩else⟨s,(0,0,0),⟨if s=1 then 9723 else 613740293506734924,if s=1 then 164643 else 666621259561003659,0⟩⟩
theorem Xcg(s:Int):Zpq s=(Qer s).L++[0]:=by
 unfold Zpq Qer;by_cases h:s=0
 ·rw[if_pos h,if_pos h];rfl
 ·rw[if_neg h,if_neg h];rfl
theorem Xdf{k:Ky}(h:k.Is):k.neg.s=k.s:=by
 unfold Ky.neg;by_cases h0:k.s=0
 ·rw[if_pos h0];exact h0.symm
 ·rw[if_neg h0]
theorem Zli{s:Int}(h:Y5 s):(Qer s).s=s/\(Qer s).ok/\(Qer s).rg:=by
 rcases Qry h with rfl|rfl|rfl
 ·exact⟨rfl,Xef,by show(_/\_)/\_;exact⟨⟨⟨by decide,by decide⟩,by decide,by decide⟩,⟨by decide,by decide⟩,by decide,by decide⟩⟩
 ·exact⟨rfl,Xes,by show(_/\_)/\_;exact⟨⟨⟨by decide,by decide⟩,by decide,by decide⟩,⟨by decide,by decide⟩,by decide,by decide⟩⟩
 ·exact⟨rfl,Xdi,by show(_/\_)/\_;exact⟨⟨⟨by decide,by decide⟩,by decide,by decide⟩,⟨by decide,by decide⟩,by decide,by decide⟩⟩
theorem Zch:Jb 0=⟨0,b1L,⟨0,0,0⟩⟩:=by unfold Jb;rw[if_pos rfl,Zwx]
theorem Zep:Jb 1=⟨1,(0,0,0),⟨680769,739834,0⟩⟩:=by unfold Jb;rw[if_neg (by decide),Qm0]
theorem Zdm:Jb 2=⟨2,(0,0,0),⟨275425563242282422,1019764028308248193,0⟩⟩:=by unfold Jb;rw[if_neg (by decide),Qlw]
theorem Xdh:inG b1L.1 b1L.2.1 b1L.2.2:=by
 refine⟨⟨⟨by decide +kernel,by decide +kernel⟩,?_⟩,?_⟩
 ·rw[if_pos (show b1L.2.2=0 from rfl)];decide +kernel
 ·rw[show rsV b1L.1 b1L.2.1 b1L.2.2=⟨b1L.1,b1L.2.1,1⟩ by unfold rsV;rw[if_pos (show b1L.2.2=0 from rfl)]];decide +kernel
def QG(g:Int)(t:List Int):Prop:=(g=1/\t=Xy)∨(g=3/\t=t1T)∨(g=4/\t=t1T)
theorem Zny(s:Int):(s=0->(∃n:Nat,Qa7 ((Zo bP 1 Xy+n)%bP))/\b1T.2.2=0)/\(Je s->(Ui s 1 Xy).z=0)/\QG 1 Xy:=by
 refine⟨fun _=>⟨Zma,by rw[Zwx];rfl⟩,fun h=>?_,.inl ⟨rfl,rfl⟩⟩;rcases h with rfl|rfl
 ·rw[Qm0]
 ·rw[Qlw]
theorem Zjl{s:Int}(h:Y5 s):(Jb s).s=s/\(Jb s).ok/\(Jb s).rg:=by
 rcases Qry h with rfl|rfl|rfl
 ·rw[Zch];exact⟨rfl,.inl ⟨rfl,⟨rfl,rfl,rfl⟩,Xdh⟩,by show(_/\_)/\_;exact⟨⟨⟨by decide +kernel,by decide +kernel⟩,by decide,by decide⟩,⟨by decide,by decide⟩,by decide,by decide⟩⟩
 ·rw[Zep];exact⟨rfl,.inr ⟨.inl rfl,⟨rfl,rfl,rfl⟩,Qy9⟩,by show(_/\_)/\_;exact⟨⟨⟨by decide,by decide⟩,by decide,by decide⟩,⟨by decide,by decide⟩,by decide,by decide⟩⟩
 ·rw[Zdm];exact⟨rfl,.inr ⟨.inr rfl,⟨rfl,rfl,rfl⟩,Zaj⟩,by show(_/\_)/\_;exact⟨⟨⟨by decide,by decide⟩,by decide,by decide⟩,⟨by decide,by decide⟩,by decide,by decide⟩⟩
theorem Zuo:U6 0 t1T=⟨0,Qwz,⟨0,0,0⟩⟩:=by unfold U6;rw[if_pos rfl,Zt9]
theorem Zrz:U6 1 t1T=⟨1,((0,0),(0,0),0),⟨190820,751250,0⟩⟩:=by unfold U6;rw[if_neg (by decide),Zp6]
theorem Zuy:U6 2 t1T=⟨2,((0,0),(0,0),0),⟨940922117766923706,300619284755947125,0⟩⟩:=by unfold U6;rw[if_neg (by decide),Zjb]
theorem Zkr{s:Int}(h:Y5 s):(U6 s t1T).s=s/\(U6 s t1T).ok/\(U6 s t1T).rg:=by
 rcases Qry h with rfl|rfl|rfl
 ·rw[Zuo];exact⟨rfl,.inl ⟨rfl,⟨rfl,rfl,rfl⟩,Zu5⟩,by show(_/\_)/\_;exact⟨⟨⟨⟨by decide +kernel,by decide +kernel⟩,by decide +kernel,by decide +kernel⟩,by decide,by decide⟩,⟨by decide,by decide⟩,by decide,by decide⟩⟩
 ·rw[Zrz];exact⟨rfl,.inr ⟨.inl rfl,⟨⟨rfl,rfl⟩,⟨rfl,rfl⟩,rfl⟩,Zk5⟩,by show(_/\_)/\_;exact⟨⟨⟨⟨by decide,by decide⟩,by decide,by decide⟩,by decide,by decide⟩,⟨by decide,by decide⟩,by decide,by decide⟩⟩
 ·rw[Zuy];exact⟨rfl,.inr ⟨.inr rfl,⟨⟨rfl,rfl⟩,⟨rfl,rfl⟩,rfl⟩,Zq4⟩,by show(_/\_)/\_;exact⟨⟨⟨⟨by decide,by decide⟩,by decide,by decide⟩,by decide,by decide⟩,⟨by decide,by decide⟩,by decide,by decide⟩⟩
theorem Zpf{s x0 x1 x2 x3 x4 x5 x6 y0 y1 y2 y3 y4 y5 y6:Int}(h:Y5 s)(hG:Ky.mk x0 (x1,x2,x3) ⟨x4,x5,x6⟩=Qer s)(hH:Ky.mk y0 (y1,y2,y3) ⟨y4,y5,y6⟩=Jb s):Q0 x1 0≠Q0 y1 0∨x4≠y4:=by
 rcases Qry h with rfl|rfl|rfl
 ·rw[Zch]at hH;have q1:x1=g1X:=congrArg (fun k:Ky=>k.t.1) hG;have q2:y1=b1L.1:=congrArg (fun k:Ky=>k.t.1) hH;rw[q1,q2];exact .inl (by decide +kernel)
 ·rw[Zep]at hH;have q1:x4=9723:=congrArg (fun k:Ky=>k.l.x) hG;have q2:y4=680769:=congrArg (fun k:Ky=>k.l.x) hH;rw[q1,q2];exact .inr (by decide)
 ·rw[Zdm]at hH;have q1:x4=613740293506734924:=congrArg (fun k:Ky=>k.l.x) hG;have q2:y4=275425563242282422:=congrArg (fun k:Ky=>k.l.x) hH;rw[q1,q2];exact .inr (by decide)
theorem Zaf{T:List K}{e:Nat->Int}{v:Int}{i0 i1 i2 i3 i4 i5 i6 j0 j1 j2 j3 j4 j5 j6:Nat}(hv:v=(D.eqs [((.v i0),(.v j0)),((.m i1 0),(.m j1 0)),((.m i1 1),(.m j1 1)),((.m i1 2),(.m j1 2)),((.m i1 3),(.m j1 3)),((.m i1 4),(.m j1 4)),((.m i1 5),(.m j1 5)),((.m i2 0),(.m j2 0)),((.m i2 1),(.m j2 1)),((.m i2 2),(.m j2 2)),((.m i2 3),(.m j2 3)),((.m i2 4),(.m j2 4)),((.m i2 5),(.m j2 5)),((.v i3),(.v j3)),((.v i4),(.v j4)),((.v i5),(.v j5)),((.v i6),(.v j6))]).ev T e)(h:Ky.mk (e i0) (e i1,e i2,e i3) ⟨e i4,e i5,e i6⟩=Ky.mk (e j0) (e j1,e j2,e j3) ⟨e j4,e j5,e j6⟩):v≠0:=by
 injection h with h0 h1 h2;injection h1 with h1 h3;injection h3 with h3 h4;injection h2 with h5 h6 h7;rw[hv];simp only[D.ev,Lq,H9,Q3,Qp,Qm,h0,h1,h3,h4,h5,h6,h7,beq_self_eq_true,Hy,X6];decide
theorem Xaz{T:List K}{e:Nat->Int}{v:Int}{i0 i1 i2 i3 i4 i5 i6 i7 i8 j0 j1 j2 j3 j4 j5 j6 j7 j8:Nat}(hv:v=(D.eqs [((.v i0),(.v j0)),((.m i1 0),(.m j1 0)),((.m i1 1),(.m j1 1)),((.m i1 2),(.m j1 2)),((.m i1 3),(.m j1 3)),((.m i1 4),(.m j1 4)),((.m i1 5),(.m j1 5)),((.m i2 0),(.m j2 0)),((.m i2 1),(.m j2 1)),((.m i2 2),(.m j2 2)),((.m i2 3),(.m j2 3)),((.m i2 4),(.m j2 4)),((.m i2 5),(.m j2 5)),((.m i3 0),(.m j3 0)),((.m i3 1),(.m j3 1)),((.m i3 2),(.m j3 2)),((.m i3 3),(.m j3 3)),((.m i3 4),(.m j3 4)),((.m i3 5),(.m j3 5)),((.m i4 0),(.m j4 0)),((.m i4 1),(.m j4 1)),((.m i4 2),(.m j4 2)),((.m i4 3),(.m j4 3)),((.m i4 4),(.m j4 4)),((.m i4 5),(.m j4 5)),((.v i5),(.v j5)),((.v i6),(.v j6)),((.v i7),(.v j7)),((.v i8),(.v j8))]).ev T e)(h:Sg.mk (e i0) ((e i1,e i2),(e i3,e i4),e i5) ⟨e i6,e i7,e i8⟩=Sg.mk (e j0) ((e j1,e j2),(e j3,e j4),e j5) ⟨e j6,e j7,e j8⟩):v≠0:=by
 injection h with h0 h1 h2;injection h1 with h1 h3;injection h1 with h1 h8;injection h3 with h3 h4;injection h3 with h3 h9;injection h2 with h5 h6 h7;rw[hv];simp only[D.ev,Lq,H9,Q3,Qp,Qm,h0,h1,h3,h4,h5,h6,h7,h8,h9,beq_self_eq_true,Hy,X6];decide
theorem Xbk{T:List K}{e:Nat->Int}{v:Int}{i0 i1 i2 i3 i4 i5 i6 j0 j1 j2 j3 j4 j5 j6:Nat}(hv:v=(D.eqs [((.v i0),(.v j0)),((.m i1 0),(.m j1 0)),((.m i1 1),(.m j1 1)),((.m i1 2),(.m j1 2)),((.m i1 3),(.m j1 3)),((.m i1 4),(.m j1 4)),((.m i1 5),(.m j1 5)),((.m i2 0),(.m j2 0)),((.m i2 1),(.m j2 1)),((.m i2 2),(.m j2 2)),((.m i2 3),(.m j2 3)),((.m i2 4),(.m j2 4)),((.m i2 5),(.m j2 5)),((.v i3),(.v j3)),((.v i4),(.v j4)),((.v i5),(.v j5)),((.v i6),(.v j6))]).ev T e)(h:Q0 (e i1) 0≠Q0 (e j1) 0∨e i4≠e j4):v=0:=by
 rcases Zwe hv with⟨_,ha⟩|⟨h0,_⟩
 ·rcases h with h|h
  ·exact absurd (ha ((.m i1 0),(.m j1 0)) (Mq (i:=1) rfl)) h
  ·exact absurd (ha ((.v i4),(.v j4)) (Mq (i:=14) rfl)) h
 ·exact h0
noncomputable def Qay(f:FuncId):K:={fn:=f,ext:=false,ins:=[iI,iN,iN,iN,iN],outs:=[oB],pre:=fun _=>True,sem:=fun _=>[1] }
def Qk4:Qn:=(xw 0 [] 5 U3
(.l 6 .bit (.c .lss (.v 0) (.n 0))
(.split 6
(.ret [.v 5])
(.l 7 .bit (.c .gtr (.v 0) (.n 2))
(.split 7
(.ret [.v 5])
(.l 8 (.lst .num) (.lapp (.n 0) [.v 1,.v 2,.v 3,.v 4])
(xw 1 [.v 0,.v 8] 9 [(.lst .num)]
(xw 2 [.v 0] 10 qca
(xw 3 [.v 0] 18 qca
(.l 26 (.lst (.int .u8)) (.lapp (.n 0) [.n 1])
(.l 27 (.lst .byt) (.lapp (.n 0) [.v 26])
(xw 4 [.v 0,.v 27] 28 qha
(.l 38 kI (.llen (.v 9))
(.l 39 .bit (.c .neq (.v 38) (.n 4))
(.split 39
(.ret [.n 0])
(.l 40 .bit (.c .neq (.v 25) (.n 0))
(.split 40
(.ret [.n 0])
(.l 41 .bit (.c .neq (.v 37) (.n 0))
(.split 41
(.ret [.n 0])
(.l 42 .bit (.eqs [((.v 10),(.v 18)),((.m 11 0),(.m 19 0)),((.m 11 1),(.m 19 1)),((.m 11 2),(.m 19 2)),((.m 11 3),(.m 19 3)),((.m 11 4),(.m 19 4)),((.m 11 5),(.m 19 5)),((.m 12 0),(.m 20 0)),((.m 12 1),(.m 20 1)),((.m 12 2),(.m 20 2)),((.m 12 3),(.m 20 3)),((.m 12 4),(.m 20 4)),((.m 12 5),(.m 20 5)),((.v 13),(.v 21)),((.v 14),(.v 22)),((.v 15),(.v 23)),((.v 16),(.v 24))])
(.split 42
(.ret [.n 0])
(xw 5 [.v 18,.v 19,.v 20,.v 21,.v 22,.v 23,.v 24] 43 U3
(.l 44 .bit (.not (.v 43))
(.split 44
(.ret [.n 0])
(xw 6 [.v 28,.v 29,.v 30,.v 31,.v 32,.v 33,.v 34,.v 35,.v 36] 45 U3
(.l 46 .bit (.not (.v 45))
(.split 46
(.ret [.n 0])
(.l 143 kI (.llen (.v 9))
(.l 144 .bit (.c .leq (.n 0) (.n 0))
(.l 145 .bit (.c .lss (.n 0) (.v 143))
(.nz (.v 144)
(.nz (.v 145)
(.l 191 .num (.lget (.v 9) (.n 0))
(xw 7 [.v 10,.v 11,.v 12,.v 13,.v 14,.v 15,.v 16,.v 191] 239 qca
(.l 671 kI (.llen (.v 9))
(.l 672 .bit (.c .leq (.n 0) (.n 1))
(.l 673 .bit (.c .lss (.n 1) (.v 671))
(.nz (.v 672)
(.nz (.v 673)
(.l 719 .num (.lget (.v 9) (.n 1))
(xw 7 [.v 18,.v 19,.v 20,.v 21,.v 22,.v 23,.v 24,.v 719] 767 qca
(xw 8 [.v 239,.v 240,.v 241,.v 242,.v 243,.v 244,.v 245,.v 767,.v 768,.v 769,.v 770,.v 771,.v 772,.v 773] 1103 qca
(xw 8 [.v 767,.v 768,.v 769,.v 770,.v 771,.v 772,.v 773,.v 239,.v 240,.v 241,.v 242,.v 243,.v 244,.v 245] 1111 qca
(.l 1215 kI (.llen (.v 9))
(.l 1216 .bit (.c .leq (.n 0) (.n 2))
(.l 1217 .bit (.c .lss (.n 2) (.v 1215))
(.nz (.v 1216)
(.nz (.v 1217)
(.l 1263 .num (.lget (.v 9) (.n 2))
(.l 1359 kI (.llen (.v 9))
(.l 1360 .bit (.c .leq (.n 0) (.n 3))
(.l 1361 .bit (.c .lss (.n 3) (.v 1359))
(.nz (.v 1360)
(.nz (.v 1361)
(.l 1407 .num (.lget (.v 9) (.n 3))
(xw 10 [.v 0,.v 1263,.v 1407] 1455 qsa
(.l 1887 kI (.llen (.v 9))
(.l 1888 .bit (.c .leq (.n 0) (.n 2))
(.l 1889 .bit (.c .lss (.n 2) (.v 1887))
(.nz (.v 1888)
(.nz (.v 1889)
(.l 1935 .num (.lget (.v 9) (.n 2))
(xw 7 [.v 1103,.v 1104,.v 1105,.v 1106,.v 1107,.v 1108,.v 1109,.v 1935] 1983 qca
(.l 2415 kI (.llen (.v 9))
(.l 2416 .bit (.c .leq (.n 0) (.n 3))
(.l 2417 .bit (.c .lss (.n 3) (.v 2415))
(.nz (.v 2416)
(.nz (.v 2417)
(.l 2463 .num (.lget (.v 9) (.n 3))
(xw 7 [.v 1103,.v 1104,.v 1105,.v 1106,.v 1107,.v 1108,.v 1109,.v 2463] 2511 qca
(xw 8 [.v 1983,.v 1984,.v 1985,.v 1986,.v 1987,.v 1988,.v 1989,.v 2511,.v 2512,.v 2513,.v 2514,.v 2515,.v 2516,.v 2517] 2847 qca
(xw 7 [.v 1103,.v 1104,.v 1105,.v 1106,.v 1107,.v 1108,.v 1109,.v 1455] 2855 qca
(xw 9 [.v 239,.v 240,.v 241,.v 242,.v 243,.v 244,.v 245] 2863 qca
(xw 8 [.v 1103,.v 1104,.v 1105,.v 1106,.v 1107,.v 1108,.v 1109,.v 2863,.v 2864,.v 2865,.v 2866,.v 2867,.v 2868,.v 2869] 2871 qca
(.l 2975 kI (.llen (.v 9))
(.l 2976 .bit (.c .leq (.n 0) (.n 2))
(.l 2977 .bit (.c .lss (.n 2) (.v 2975))
(.nz (.v 2976)
(.nz (.v 2977)
(.l 3023 .num (.lget (.v 9) (.n 2))
(xw 11 [.v 28,.v 29,.v 30,.v 31,.v 32,.v 33,.v 34,.v 35,.v 36,.v 3023] 3071 qha
(.l 3503 kI (.llen (.v 9))
(.l 3504 .bit (.c .leq (.n 0) (.n 3))
(.l 3505 .bit (.c .lss (.n 3) (.v 3503))
(.nz (.v 3504)
(.nz (.v 3505)
(.l 3551 .num (.lget (.v 9) (.n 3))
(xw 11 [.v 28,.v 29,.v 30,.v 31,.v 32,.v 33,.v 34,.v 35,.v 36,.v 3551] 3599 qha
(xw 12 [.v 3071,.v 3072,.v 3073,.v 3074,.v 3075,.v 3076,.v 3077,.v 3078,.v 3079,.v 3599,.v 3600,.v 3601,.v 3602,.v 3603,.v 3604,.v 3605,.v 3606,.v 3607] 3935 qha
(xw 11 [.v 28,.v 29,.v 30,.v 31,.v 32,.v 33,.v 34,.v 35,.v 36,.v 1455] 3945 qha
(.split 5
(.l 3955 .bit (.c .eql (.v 2862) (.n 0))
(.split 3955
(.l 3956 .bit (.c .eql (.v 3954) (.n 0))
(.split 3956
(.l 3957 .bit (.eqs [((.v 1103),(.v 1111)),((.m 1104 0),(.m 1112 0)),((.m 1104 1),(.m 1112 1)),((.m 1104 2),(.m 1112 2)),((.m 1104 3),(.m 1112 3)),((.m 1104 4),(.m 1112 4)),((.m 1104 5),(.m 1112 5)),((.m 1105 0),(.m 1113 0)),((.m 1105 1),(.m 1113 1)),((.m 1105 2),(.m 1113 2)),((.m 1105 3),(.m 1113 3)),((.m 1105 4),(.m 1113 4)),((.m 1105 5),(.m 1113 5)),((.v 1106),(.v 1114)),((.v 1107),(.v 1115)),((.v 1108),(.v 1116)),((.v 1109),(.v 1117))])
(.split 3957
(.l 3958 .bit (.eqs [((.v 2855),(.v 2847)),((.m 2856 0),(.m 2848 0)),((.m 2856 1),(.m 2848 1)),((.m 2856 2),(.m 2848 2)),((.m 2856 3),(.m 2848 3)),((.m 2856 4),(.m 2848 4)),((.m 2856 5),(.m 2848 5)),((.m 2857 0),(.m 2849 0)),((.m 2857 1),(.m 2849 1)),((.m 2857 2),(.m 2849 2)),((.m 2857 3),(.m 2849 3)),((.m 2857 4),(.m 2849 4)),((.m 2857 5),(.m 2849 5)),((.v 2858),(.v 2850)),((.v 2859),(.v 2851)),((.v 2860),(.v 2852)),((.v 2861),(.v 2853))])
(.split 3958
(.l 3959 .bit (.eqs [((.v 2871),(.v 767)),((.m 2872 0),(.m 768 0)),((.m 2872 1),(.m 768 1)),((.m 2872 2),(.m 768 2)),((.m 2872 3),(.m 768 3)),((.m 2872 4),(.m 768 4)),((.m 2872 5),(.m 768 5)),((.m 2873 0),(.m 769 0)),((.m 2873 1),(.m 769 1)),((.m 2873 2),(.m 769 2)),((.m 2873 3),(.m 769 3)),((.m 2873 4),(.m 769 4)),((.m 2873 5),(.m 769 5)),((.v 2874),(.v 770)),((.v 2875),(.v 771)),((.v 2876),(.v 772)),((.v 2877),(.v 773))])
(.split 3959
(.l 3960 .bit (.eqs [((.v 3935),(.v 3945)),((.m 3936 0),(.m 3946 0)),((.m 3936 1),(.m 3946 1)),((.m 3936 2),(.m 3946 2)),((.m 3936 3),(.m 3946 3)),((.m 3936 4),(.m 3946 4)),((.m 3936 5),(.m 3946 5)),((.m 3937 0),(.m 3947 0)),((.m 3937 1),(.m 3947 1)),((.m 3937 2),(.m 3947 2)),((.m 3937 3),(.m 3947 3)),((.m 3937 4),(.m 3947 4)),((.m 3937 5),(.m 3947 5)),((.m 3938 0),(.m 3948 0)),((.m 3938 1),(.m 3948 1)),((.m 3938 2),(.m 3948 2)),((.m 3938 3),(.m 3948 3)),((.m 3938 4),(.m 3948 4)),((.m 3938 5),(.m 3948 5)),((.m 3939 0),(.m 3949 0)),((.m 3939 1),(.m 3949 1)),((.m 3939 2),(.m 3949 2)),((.m 3939 3),(.m 3949 3)),((.m 3939 4),(.m 3949 4)),((.m 3939 5),(.m 3949 5)),((.v 3940),(.v 3950)),((.v 3941),(.v 3951)),((.v 3942),(.v 3952)),((.v 3943),(.v 3953))])
(.split 3960
(xw 5 [.v 2855,.v 2856,.v 2857,.v 2858,.v 2859,.v 2860,.v 2861] 3961 U3
(.split 3961
(xw 6 [.v 3945,.v 3946,.v 3947,.v 3948,.v 3949,.v 3950,.v 3951,.v 3952,.v 3953] 3962 U3
(.ret [.v 3962]))
(.ret [.n 0])))
(.ret [.n 0])))
(.ret [.n 0])))
(.ret [.n 0])))
(.ret [.n 0])))
(.ret [.n 0])))
(.ret [.n 0])))
(.ret [.n 0]))))))))))))))))))))))))))))))))))))))))))))))))))))))))))))))))))))))))))))))))))))))))))))
theorem Quq(te:TypeId)(f0 f1 f2 f3 f4 f5 f6 f7 f8 f9 f10 f11 f12 f:FuncId)(e:Nat->Int)(hk:Qy [.int .i64,.num,.num,.num,.num] [e 0,e 1,e 2,e 3,e 4]):Qk4.Xij [Qzs f0,Qcs te f1,Qva f2,Qm3 QG f3,Qwm QG f4,Qbt f5,Qdw f6,Zb2 f7,Za9 f8,Zc9 f9,kS2 f10 (·+ ·),Qkx f11,Qkk f12] ⟨fun ys=>ys=(Qay f).sem [e 0,e 1,e 2,e 3,e 4],[]⟩ e:=by
 obtain⟨_,u1,u2,u3,u4,_⟩:=hk;show Qk4.Xij _ ⟨fun ys=>ys=[1],[]⟩ e;refine⟨trivial,fun a5 _ a6 _=>?_⟩;have v5:e 5=1:=a5;have b6:=Va a6;simp only[Qm,Qp]at b6;refine⟨fun _=>by show[e 5]=[1];rw[v5],fun h6 a7 _=>?_⟩;have b7:=Qnw a7;simp only[Qm,Qp]at b7;refine⟨fun _=>by show[e 5]=[1];rw[v5],fun h7=>?_⟩;have hs:Y5 (e 0):=by have:=Xf b6 h6;have:=Xf b7 h7;exact⟨by omega,by omega⟩
 have hr:=Vv (e 0);intro a8 _;have d8:dec (e 8)=[e 1,e 2,e 3,e 4]:=by rw[show e 8=enc (dec 0++[e 1,e 2,e 3,e 4])from a8,Qr,Qu];rfl
 refine⟨⟨hs,by rw[show dec ((A.v 8).ev e)=[e 1,e 2,e 3,e 4]from d8];exact(show(4:Nat)<=1000 by decide)⟩,fun a9 _=>⟨hs,?_⟩⟩;have d9:dec (e 9)=Qgt (e 0) [e 1,e 2,e 3,e 4]:=by rw[show e 9=enc (Qgt (e 0) (dec (e 8)))from a9,Qr,d8]
 refine fun a10 _ a11 _ a12 _ a13 _ a14 _ a15 _ a16 _ a17 _=>⟨Zny (e 0),fun a18 _ a19 _ a20 _ a21 _ a22 _ a23 _ a24 _ a25 _ a26 _ a27 _=>?_⟩
 obtain⟨hG,v17⟩:Ky.mk (e 10) (e 11,e 12,e 13) ⟨e 14,e 15,e 16⟩=Qer (e 0)/\e 17=0:=Qma (Xcg (e 0)) a10 a11 a12 a13 a14 a15 a16 a17;obtain⟨hH,v25⟩:Ky.mk (e 18) (e 19,e 20,e 21) ⟨e 22,e 23,e 24⟩=Jb (e 0)/\e 25=0:=Qma (if_pos hs) a18 a19 a20 a21 a22 a23 a24 a25;have d26:dec (e 26)=[1]:=by rw[show e 26=enc (dec 0++[1])from a26,Qr,Qu];rfl
 have d27:dec (e 27)=[e 26]:=by rw[show e 27=enc (dec 0++[e 26])from a27,Qr,Qu];rfl
 have j27:Z2 (dec (e 27))=t1T:=by rw[d27];simp only[Z2,d26,Hn];rfl
 have t27:Y6 (dec (e 27))=5:=by rw[d27];simp only[Y6,d26];rfl
 refine⟨⟨?_,fun _ _=>?_,fun _=>?_⟩,?_⟩
 ·show ∀z∈dec (e 27),((dec z).length:Int)<4611686018427387904;rw[d27];intro z hz;rw[O5]at hz;rw[hz,d26];decide
 ·show Qtn (Z2 (dec (e 27)));rw[j27];exact Qyb
 ·show QG 3 (Z2 (dec (e 27)))/\QG 4 (Z2 (dec (e 27)));rw[j27];exact⟨.inr (.inl ⟨rfl,rfl⟩),.inr (.inr ⟨rfl,rfl⟩)⟩
 intro a28 _ a29 _ a30 _ a31 _ a32 _ a33 _ a34 _ a35 _ a36 _ a37 _ a38 _ a39 _;obtain⟨hU,v37⟩:Sg.mk (e 28) ((e 29,e 30),(e 31,e 32),e 33) ⟨e 34,e 35,e 36⟩=U6 (e 0) t1T/\e 37=0:=Qzm (L:=Qw6 (e 0) (e 27)) (by unfold Qw6;rw[if_pos hs,if_pos (by omega),j27]) a28 a29 a30 a31 a32 a33 a34 a35 a36 a37;obtain⟨sG,okG,rgG⟩:=Zli hs;obtain⟨sH,okH,rgH⟩:=Zjl hs;obtain⟨sU,okU,rgU⟩:=Zkr hs;have isG:=Ky.Xjm okG rgG;have isH:=Ky.Xjm okH rgH;have isU:=Sg.Xjm okU rgU;obtain⟨l,hl⟩:∃l,l=[e 1%Xr (e 0),e 2%Xr (e 0),e 3%Xr (e 0),e 4%Xr (e 0)]:=⟨_,rfl⟩
 have d9:dec (e 9)=l:=d9.trans hl.symm;have v38:e 38=4:=by rw[show e 38=((dec (e 9)).length:Int)from a38,d9,hl];rfl
 have b39:=Qaj a39;simp only[Qm,Qp]at b39;refine⟨fun h=>by omega,fun _ a40 _=>?_⟩;have b40:=Qaj a40;simp only[Qm,Qp]at b40;refine⟨fun h=>by omega,fun _ a41 _=>?_⟩;have b41:=Qaj a41;simp only[Qm,Qp]at b41;refine⟨fun h=>by omega,fun _ a42 _=>?_⟩;have v42:e 42=0:=Xbk a42 (Zpf hs hG hH);refine⟨fun h=>absurd v42 h,fun _=>⟨trivial,fun a43 _ a44 _=>?_⟩⟩;have v43:e 43=1:=(show e 43=bj (Y4 (e 18) (e 19) (e 20) (e 21) (e 22) (e 23) (e 24))from a43).trans (Qw4 hH okH);have b44:=Z6 a44;simp only[Qm]at b44;refine⟨fun h=>by omega,fun _=>⟨trivial,fun a45 _ a46 _=>?_⟩⟩;have v45:e 45=1:=(show e 45=bj (Up (e 28) (e 29) (e 30) (e 31) (e 32) (e 33) (e 34) (e 35) (e 36))from a45).trans (Qwb hU okU);have b46:=Z6 a46;simp only[Qm]at b46;refine⟨fun h=>by omega,fun _=>?_⟩;have m1:=Qmy (e 1) hr;have m2:=Qmy (e 2) hr;have m3:=Qmy (e 3) hr;have m4:=Qmy (e 4) hr;have l38:(l.length:Int)=4:=by rw[hl];rfl
 intro a143 _ a144 _ a145 _;have v143:e 143=4:=by rw[show e 143=((dec (e 9)).length:Int)from a143,d9,l38]
 refine⟨Zb a144 (show(0:Int)<=0 by omega),Zk a145 (by show(0:Int)<e 143;omega),fun a191 _=>?_⟩;have v191:e 191=e 1%Xr (e 0):=by rw[show e 191=(dec (e 9)).getD 0 0 from a191,d9,hl];rfl
 refine⟨trivial,fun a239 _ a240 _ a241 _ a242 _ a243 _ a244 _ a245 _ a246 _=>?_⟩;obtain⟨hP,v246⟩:=Qdf hG isG (n:=e 191) (by rw[sG];omega) a239 a240 a241 a242 a243 a244 a245 a246;have isP:((Qer (e 0)).mul (e 191).toNat).Is:=Ky.Xi4 isG (by rw[sG];omega);have sP:((Qer (e 0)).mul (e 191).toNat).s=e 0:=(Ky.Xjh isG _).trans sG;generalize (Qer (e 0)).mul (e 191).toNat=P at hP isP sP;intro a671 _ a672 _ a673 _;have v671:e 671=4:=by rw[show e 671=((dec (e 9)).length:Int)from a671,d9,l38]
 refine⟨Zb a672 (show(0:Int)<=1 by omega),Zk a673 (by show(1:Int)<e 671;omega),fun a719 _=>?_⟩;have v719:e 719=e 2%Xr (e 0):=by rw[show e 719=(dec (e 9)).getD 1 0 from a719,d9,hl];rfl
 refine⟨trivial,fun a767 _ a768 _ a769 _ a770 _ a771 _ a772 _ a773 _ a774 _=>?_⟩;obtain⟨hQ,v774⟩:=Qdf hH isH (n:=e 719) (by rw[sH];omega) a767 a768 a769 a770 a771 a772 a773 a774;have isQ:((Jb (e 0)).mul (e 719).toNat).Is:=Ky.Xi4 isH (by rw[sH];omega);have sQ:((Jb (e 0)).mul (e 719).toNat).s=e 0:=(Ky.Xjh isH _).trans sH;generalize (Jb (e 0)).mul (e 719).toNat=Q at hQ isQ sQ;refine⟨trivial,fun a1103 _ a1104 _ a1105 _ a1106 _ a1107 _ a1108 _ a1109 _ a1110 _=>?_⟩;obtain⟨hPQ,v1110⟩:=Qha hP hQ isP isQ (sP.trans sQ.symm) a1103 a1104 a1105 a1106 a1107 a1108 a1109 a1110;refine⟨trivial,fun a1111 _ a1112 _ a1113 _ a1114 _ a1115 _ a1116 _ a1117 _ a1118 _=>?_⟩;obtain⟨hQP,v1118⟩:=Qha hQ hP isQ isP (sQ.trans sP.symm) a1111 a1112 a1113 a1114 a1115 a1116 a1117 a1118;have isPQ:=Ky.Xjo isP isQ (sP.trans sQ.symm);have sPQ:=(Ky.Xjv (k':=Q) isP).trans sP;intro a1215 _ a1216 _ a1217 _;have v1215:e 1215=4:=by rw[show e 1215=((dec (e 9)).length:Int)from a1215,d9,l38]
 refine⟨Zb a1216 (show(0:Int)<=2 by omega),Zk a1217 (by show(2:Int)<e 1215;omega),fun a1263 _=>?_⟩;have v1263:e 1263=e 3%Xr (e 0):=by rw[show e 1263=(dec (e 9)).getD 2 0 from a1263,d9,hl];rfl
 intro a1359 _ a1360 _ a1361 _;have v1359:e 1359=4:=by rw[show e 1359=((dec (e 9)).length:Int)from a1359,d9,l38]
 refine⟨Zb a1360 (show(0:Int)<=3 by omega),Zk a1361 (by show(3:Int)<e 1359;omega),fun a1407 _=>?_⟩;have v1407:e 1407=e 4%Xr (e 0):=by rw[show e 1407=(dec (e 9)).getD 3 0 from a1407,d9,hl];rfl
 refine⟨trivial,fun a1455 _ a1456 _=>?_⟩;have v1455:e 1455=(e 3%Xr (e 0)+e 4%Xr (e 0))%Xr (e 0):=by
  rw[show e 1455=(if Y5 (e 0)/\e 1263<Xr (e 0)/\e 1407<Xr (e 0)then[(e 1263+e 1407)%Xr (e 0),0]else[0,2]).getD 0 0 from a1455,if_pos ⟨hs,by omega,by omega⟩,v1263,v1407];rfl
 have m5:=Qmy (e 3%Xr (e 0)+e 4%Xr (e 0)) hr;intro a1887 _ a1888 _ a1889 _;have v1887:e 1887=4:=by rw[show e 1887=((dec (e 9)).length:Int)from a1887,d9,l38]
 refine⟨Zb a1888 (show(0:Int)<=2 by omega),Zk a1889 (by show(2:Int)<e 1887;omega),fun a1935 _=>?_⟩;have v1935:e 1935=e 3%Xr (e 0):=by rw[show e 1935=(dec (e 9)).getD 2 0 from a1935,d9,hl];rfl
 refine⟨trivial,fun a1983 _ a1984 _ a1985 _ a1986 _ a1987 _ a1988 _ a1989 _ a1990 _=>?_⟩;obtain⟨hM,v1990⟩:=Qdf hPQ isPQ (n:=e 1935) (by rw[sPQ];omega) a1983 a1984 a1985 a1986 a1987 a1988 a1989 a1990;intro a2415 _ a2416 _ a2417 _;have v2415:e 2415=4:=by rw[show e 2415=((dec (e 9)).length:Int)from a2415,d9,l38]
 refine⟨Zb a2416 (show(0:Int)<=3 by omega),Zk a2417 (by show(3:Int)<e 2415;omega),fun a2463 _=>?_⟩;have v2463:e 2463=e 4%Xr (e 0):=by rw[show e 2463=(dec (e 9)).getD 3 0 from a2463,d9,hl];rfl
 refine⟨trivial,fun a2511 _ a2512 _ a2513 _ a2514 _ a2515 _ a2516 _ a2517 _ a2518 _=>?_⟩;obtain⟨hN,v2518⟩:=Qdf hPQ isPQ (n:=e 2463) (by rw[sPQ];omega) a2511 a2512 a2513 a2514 a2515 a2516 a2517 a2518;have isM:((P.add Q).mul (e 1935).toNat).Is:=Ky.Xi4 isPQ (by rw[sPQ];omega);have isN:((P.add Q).mul (e 2463).toNat).Is:=Ky.Xi4 isPQ (by rw[sPQ];omega);refine⟨trivial,fun a2847 _ a2848 _ a2849 _ a2850 _ a2851 _ a2852 _ a2853 _ a2854 _=>?_⟩;obtain⟨hMN,v2854⟩:=Qha hM hN isM isN ((Ky.Xjh isPQ _).trans (Ky.Xjh isPQ _).symm) a2847 a2848 a2849 a2850 a2851 a2852 a2853 a2854;refine⟨trivial,fun a2855 _ a2856 _ a2857 _ a2858 _ a2859 _ a2860 _ a2861 _ a2862 _=>?_⟩;obtain⟨hW,v2862⟩:=Qdf hPQ isPQ (n:=e 1455) (by rw[sPQ];omega) a2855 a2856 a2857 a2858 a2859 a2860 a2861 a2862;have isW:((P.add Q).mul (e 1455).toNat).Is:=Ky.Xi4 isPQ (by rw[sPQ];omega);refine⟨trivial,fun a2863 _ a2864 _ a2865 _ a2866 _ a2867 _ a2868 _ a2869 _ a2870 _=>?_⟩;obtain⟨hng,v2870⟩:=Zk7 hP isP a2863 a2864 a2865 a2866 a2867 a2868 a2869 a2870;refine⟨trivial,fun a2871 _ a2872 _ a2873 _ a2874 _ a2875 _ a2876 _ a2877 _ a2878 _=>?_⟩;obtain⟨hB,v2878⟩:=Qha hPQ hng isPQ (Ky.Xjw isP) (sPQ.trans ((Xdf isP).trans sP).symm) a2871 a2872 a2873 a2874 a2875 a2876 a2877 a2878;intro a2975 _ a2976 _ a2977 _;have v2975:e 2975=4:=by rw[show e 2975=((dec (e 9)).length:Int)from a2975,d9,l38]
 refine⟨Zb a2976 (show(0:Int)<=2 by omega),Zk a2977 (by show(2:Int)<e 2975;omega),fun a3023 _=>?_⟩;have v3023:e 3023=e 3%Xr (e 0):=by rw[show e 3023=(dec (e 9)).getD 2 0 from a3023,d9,hl];rfl
 refine⟨trivial,fun a3071 _ a3072 _ a3073 _ a3074 _ a3075 _ a3076 _ a3077 _ a3078 _ a3079 _ a3080 _=>?_⟩;obtain⟨hC,v3080⟩:=Qn9 hU isU (n:=e 3023) (by rw[sU];omega) rfl a3071 a3072 a3073 a3074 a3075 a3076 a3077 a3078 a3079 a3080;intro a3503 _ a3504 _ a3505 _;have v3503:e 3503=4:=by rw[show e 3503=((dec (e 9)).length:Int)from a3503,d9,l38]
 refine⟨Zb a3504 (show(0:Int)<=3 by omega),Zk a3505 (by show(3:Int)<e 3503;omega),fun a3551 _=>?_⟩;have v3551:e 3551=e 4%Xr (e 0):=by rw[show e 3551=(dec (e 9)).getD 3 0 from a3551,d9,hl];rfl
 refine⟨trivial,fun a3599 _ a3600 _ a3601 _ a3602 _ a3603 _ a3604 _ a3605 _ a3606 _ a3607 _ a3608 _=>?_⟩;obtain⟨hD,v3608⟩:=Qn9 hU isU (n:=e 3551) (by rw[sU];omega) rfl a3599 a3600 a3601 a3602 a3603 a3604 a3605 a3606 a3607 a3608;have isC:((U6 (e 0) t1T).mul (e 3023).toNat).Is:=Sg.Xi4 isU (by rw[sU];omega);have isD:((U6 (e 0) t1T).mul (e 3551).toNat).Is:=Sg.Xi4 isU (by rw[sU];omega);refine⟨trivial,fun a3935 _ a3936 _ a3937 _ a3938 _ a3939 _ a3940 _ a3941 _ a3942 _ a3943 _ a3944 _=>?_⟩;obtain⟨hCD,v3944⟩:=Zpk hC hD isC isD ((Sg.Xjh isU _).trans (Sg.Xjh isU _).symm) rfl a3935 a3936 a3937 a3938 a3939 a3940 a3941 a3942 a3943 a3944;refine⟨trivial,fun a3945 _ a3946 _ a3947 _ a3948 _ a3949 _ a3950 _ a3951 _ a3952 _ a3953 _ a3954 _=>?_⟩;obtain⟨hV,v3954⟩:=Qn9 hU isU (n:=e 1455) (by rw[sU];omega) rfl a3945 a3946 a3947 a3948 a3949 a3950 a3951 a3952 a3953 a3954;have isV:((U6 (e 0) t1T).mul (e 1455).toNat).Is:=Sg.Xi4 isU (by rw[sU];omega);refine⟨fun _=>?_,fun h=>by omega⟩;intro a3955 _;have b3955:=Zi a3955;simp only[Qm,Qp]at b3955;refine⟨fun _=>?_,fun h=>absurd v2862 (Xf b3955 h)⟩;intro a3956 _;have b3956:=Zi a3956;simp only[Qm,Qp]at b3956;refine⟨fun _=>?_,fun h=>absurd v3954 (Xf b3956 h)⟩;intro a3957 _;refine⟨fun _=>?_,fun h=>absurd h (Zaf a3957 (hPQ.trans ((Ky.add_comm isP isQ (sP.trans sQ.symm)).trans hQP.symm)))⟩;intro a3958 _;refine⟨fun _=>?_,fun h=>absurd h (Zaf a3958 (hW.trans (Eq.trans ?_ hMN.symm)))⟩
 rotate_left
 ·have:=Ky.mul_add isPQ (m:=e 3%Xr (e 0)) (n:=e 4%Xr (e 0)) (by rw[sPQ];exact m3) (by rw[sPQ];exact m4);rw[v1935,v2463,v1455,this,sPQ]
 intro a3959 _;refine⟨fun _=>?_,fun h=>absurd h (Zaf a3959 (hB.trans ((Ky.back isP isQ (sP.trans sQ.symm)).trans hQ.symm)))⟩;intro a3960 _;refine⟨fun _=>?_,fun h=>absurd h (Xaz a3960 (hCD.trans (Eq.trans ?_ hV.symm)))⟩
 rotate_left
 ·have:=Sg.mul_add isU (m:=e 3%Xr (e 0)) (n:=e 4%Xr (e 0)) (by rw[sU];exact m3) (by rw[sU];exact m4);rw[v3023,v3551,v1455,this,sU]
 refine⟨trivial,fun a3961 _=>?_⟩;have v3961:e 3961=1:=(show e 3961=bj (Y4 (e 2855) (e 2856) (e 2857) (e 2858) (e 2859) (e 2860) (e 2861))from a3961).trans (Qw4 hW (Ky.Xi9 isW).1);refine⟨fun _=>⟨trivial,fun a3962 _=>?_⟩,fun h=>by omega⟩;have v3962:e 3962=1:=(show e 3962=bj (Up (e 3945) (e 3946) (e 3947) (e 3948) (e 3949) (e 3950) (e 3951) (e 3952) (e 3953))from a3962).trans (Qwb hV (Sg.Xi9 isV).1);show[e 3962]=[1]
 rw[v3962]
inductive Rs where|done (ws:List W)|back (l:Nat) (ws:List W)
def itW(f:List W->Option Rs)(lvl len:Nat):Nat->List W->Option Rs
 |0,_=>none
 |n+1,ws=>match f ws with
  |some (.back l us)=>if l==lvl then(if us.length==len then itW f lvl len n us else none)else some (.back l us)
  |r=>r
def Zjr:Nat->List W->List (Nat×W)->List (Nat×W)
 |_,[],env=>env
 |n,w::ws,env=>(n,w)::Zjr (n+1) ws env
def Qz4(n0:Nat):List (Nat×W)->List (Nat×W)
 |[]=>[]
 |p::r=>if Nat.blt p.1 n0 then p::Qz4 n0 r else Qz4 n0 r
def Qn.cr(fd:Qby)(N:Nat):Qn->Nat->List (Nat×W)->Option Rs
 |.ret aq,_,env=>match Ze (A.cv env) aq with|some ws=>some (.done ws)|none=>none
 |.back lv aq,_,env=>match Ze (A.cv env) aq with|some ws=>some (.back lv ws)|none=>none
 |.split n t f,lvl,env=>match lookW env n with
  |some (.wi x)=>if x=0 then f.cr fd N lvl env else t.cr fd N lvl env
  |_=>none
 |.l n _ d t,lvl,env=>match d.cv fd env with|some w=>t.cr fd N lvl ((n,w)::env)|none=>none
 |.req g aq t,lvl,env=>match Ze (A.cv env) aq with
  |some ws=>match fd g ws with|some _=>t.cr fd N lvl env|none=>none
  |none=>none
 |.nz a t,lvl,env=>match a.ci env with|some x=>if x=0 then none else t.cr fd N lvl env|none=>none
 |.loop is kks n0 t,lvl,env=>match Ze (A.cv env) is with
  |some ws=>if ws.length==kks.length then itW (fun us=>t.cr fd N (lvl+1) (Zjr n0 us (Qz4 n0 env))) lvl kks.length N ws else none
  |none=>none
 |.bad _ _,_,_=>none
def Rs.ok(g:Gl):Rs->Prop
 |.done ws=>g.goal (ws.map W.toI)
 |.back l ws=>∃R,g.stk[l]?=some R/\R (ws.map W.toI)
theorem Qc4{n0:Nat}{p:Nat×W}:∀ {env:List (Nat×W)},p∈Qz4 n0 env->p∈env/\p.1<n0
 |[],h=>absurd h (Mx)
 |q::r,h=>by
  unfold Qz4 at h;split at h
  ·rename_i hb;rcases O6.1 h with rfl|h
   ·exact⟨Mj ..,by have:=Nat.le_of_ble_eq_true hb;omega⟩
   ·exact⟨Md _ (Qc4 h).1,(Qc4 h).2⟩
  ·exact⟨Md _ (Qc4 h).1,(Qc4 h).2⟩
theorem Zds{e:Nat->Int}{env:List (Nat×W)}(ha:Ag env e):∀(ws:List W) (n:Nat),J1 e n ws.length=ws.map W.toI->Ag (Zjr n ws env) e
 |[],_,_=>ha
 |w::ws,n,h=>fun p hp=>by
  simp only[O0,J1,Mm,List.cons.injEq]at h;rcases O6.1 hp with rfl|hp
  ·exact h.1
  ·exact Zds ha ws (n+1) h.2 p hp
theorem Zm9{p:Nat->Prop}:∀n,p n->∃k,p k/\k<=n/\∀m,p m->k<=m:=fun n=>by
 induction n using Nat.strongRecOn with
 |ind n ih =>
  intro hn;by_cases h:∃m,m<n/\p m
  ·obtain⟨m,hm,hp⟩:=h;obtain⟨k,k1,k2,k3⟩:=ih m hm hp;exact⟨k,k1,by omega,k3⟩
  ·refine⟨n,hn,Nat.le_refl _,fun m hm=>?_⟩;exact Nat.le_of_not_lt fun hlt=>h ⟨m,hlt,hm⟩
open Classical in
noncomputable def Wi(p:Nat->Prop):Nat:=if h:∃k,p k/\∀m,p m->k<=m then h.choose else 0
theorem Qo8{p:Nat->Prop}{n:Nat}(h:p n):p (Wi p)/\∀m,p m->Wi p<=m:=by
 obtain⟨k,k1,_,k3⟩:=Zm9 n h;have hx:∃k,p k/\∀m,p m->k<=m:=⟨k,k1,k3⟩
 unfold Wi;rw[dif_pos hx];exact hx.choose_spec
theorem Qbh{T:List K}{fd:Qby}(hT:Zs4 T fd){N:Nat} :
  ∀(t:Qn) (g:Gl) (e:Nat->Int) (env:List (Nat×W)) (r:Rs),t.cr fd N g.stk.length env=some r->Ag env e->r.ok g->t.Xij T g e
 |.ret aq,g,e,env,r,h,ha,hr=>by
  simp only[Qn.cr]at h;split at h
  ·rename_i ws hws;cases h;show g.goal _;rw[Qco ha hws];exact hr
  ·cases h
 |.back l aq,g,e,env,r,h,ha,hr=>by
  simp only[Qn.cr]at h;split at h
  ·rename_i ws hws;cases h;obtain⟨R,h1,h2⟩:=hr;show(match g.stk[l]? with|some R=>R _|none=>False);rw[h1];show R _;rw[Qco ha hws];exact h2
  ·cases h
 |.split n t f,g,e,env,r,h,ha,hr=>by
  simp only[Qn.cr]at h;split at h
  ·rename_i x hx;have hv:e n=x:=Qa1 hx ha;split at h
   ·rename_i h0;exact⟨fun hn=>absurd (hv.trans h0) hn,fun _=>Qbh hT f g e env r h ha hr⟩
   ·rename_i h0;exact⟨fun _=>Qbh hT t g e env r h ha hr,fun hn=>absurd (hv.symm.trans hn) h0⟩
  ·cases h
 |.l n kk d t,g,e,env,r,h,ha,hr=>by
  simp only[Qn.cr]at h;split at h
  ·rename_i w hw;intro hv _;refine Qbh hT t g e _ r h (fun p hp=>?_) hr;rcases O6.1 hp with rfl|hp
   ·exact hv.trans (D.Xjf hT ha hw)
   ·exact ha p hp
  ·cases h
 |.req q aq t,g,e,env,r,h,ha,hr=>by
  simp only[Qn.cr]at h;split at h
  ·rename_i ws hws;split at h
   ·rename_i os hos;obtain⟨Y,k1,k2,_⟩:=hT _ _ _ hos;refine⟨?_,Qbh hT t g e env r h ha hr⟩;rw[k1,Qco ha hws];exact k2
   ·cases h
  ·cases h
 |.nz a t,g,e,env,r,h,ha,hr=>by
  simp only[Qn.cr]at h;split at h
  ·rename_i x hx;split at h
   ·cases h
   ·rename_i h0;exact⟨by rw[A.Xiw ha hx];exact h0,Qbh hT t g e env r h ha hr⟩
  ·cases h
 |.loop is kks n0 t,g,e,env,r,h,ha,hr=>by
  simp only[Qn.cr]at h;split at h
  ·rename_i ws hws;split at h
   ·rename_i hl;rw[beq_iff_eq]at hl
    let f:List W->Option Rs:=fun us=>t.cr fd N (g.stk.length+1) (Zjr n0 us (Qz4 n0 env))
    have h:itW f g.stk.length kks.length N ws=some r:=h
    let p:List Int->Nat->Prop:=fun us k=>∃vs:List W,us=vs.map W.toI/\vs.length=kks.length/\itW f g.stk.length kks.length k vs=some r
    refine⟨fun us=>∃k,p us k,fun us=>Wi (p us),⟨N,ws,Qco ha hws,hl,h⟩,fun e' he _ hI=>?_⟩;obtain⟨k0,hk0⟩:=hI;obtain⟨hk,hmin⟩:=Qo8 hk0;obtain⟨k,hkk⟩:∃k,k=Wi (p (J1 e' n0 kks.length)):=⟨_,rfl⟩
    rw[<- hkk]at hk;obtain⟨vs,v1,v2,v3⟩:=hk;have ha':Ag (Zjr n0 vs (Qz4 n0 env)) e':=by
     refine Zds (fun q hq=>?_) vs n0 (by rw[v2];exact v1);obtain⟨m1,m2⟩:=Qc4 hq;rw[he _ m2];exact ha q m1
    cases k with
    |zero=>cases v3
    |succ k =>
     simp only[itW]at v3;cases hf:f vs with
     |none=>rw[hf]at v3;cases v3
     |some r1 =>
      have hl1:(g.stk++[fun us=>(∃k,p us k)/\Wi (p us)<Wi (p (J1 e' n0 kks.length))]).length=g.stk.length+1:=by simp
      refine Qbh hT t {g with stk:=g.stk++[fun us=>(∃k,p us k)/\Wi (p us)<Wi (p (J1 e' n0 kks.length))] } e' _ r1 (by rw[show({g with stk:=g.stk++[fun us=>(∃k,p us k)/\Wi (p us)<Wi (p (J1 e' n0 kks.length))] }:Gl).stk.length=g.stk.length+1 from hl1];exact hf) ha' ?_;rw[hf]at v3;have keep:r1=r->r1.ok {g with stk:=g.stk++[fun us=>(∃k,p us k)/\Wi (p us)<Wi (p (J1 e' n0 kks.length))] }:=fun hq=>by
       subst hq;cases r1 with
       |done us=>exact hr
       |back l us =>
        obtain⟨R,h1,h2⟩:=hr;exact⟨R,by rw[Mh (Ou.1 h1).1];exact h1,h2⟩
      cases r1 with
      |done us=>exact keep (Option.some.inj v3)
      |back l us =>
       simp only at v3;split at v3
       ·rename_i hlv;rw[beq_iff_eq]at hlv;split at v3
        ·rename_i hlen;rw[beq_iff_eq]at hlen;have hp:p (us.map W.toI) k:=⟨us,rfl,hlen,v3⟩
         have hlt:Wi (p (us.map W.toI))<Wi (p (J1 e' n0 kks.length)):=by
          have:=(Qo8 hp).2 k hp;omega
         refine⟨fun us=>(∃k,p us k)/\Wi (p us)<Wi (p (J1 e' n0 kks.length)),?_,⟨k,hp⟩,hlt⟩;show(g.stk++[_])[l]?=_;rw[hlv,O7 (Nat.le_refl _),Nat.sub_self];rfl
        ·cases v3
       ·exact keep (Option.some.inj v3)
   ·cases h
  ·cases h
 |.bad _ _,g,e,env,r,h,_,_=>by simp[Qn.cr]at h
end Go.Sx
