/- Part Gl of the proof. -/
import Derived.Test.YtlloonffibabfaaGreatDoorGk
import Derived.Test.YtlloonffibabfaaGreatDoorGi
import Derived.Test.YtlloonffibabfaaGreatDoorGj
import Derived.Test.YtlloonffibabfaaGreatDoorGh
import Derived.Lib.Bytealg
set_option linter.unusedVariables false
set_option linter.unusedSimpArgs false
namespace Go.Sx
open Go Go.RowKit
set_option maxRecDepth 100000
def eR:Nat:=((bP+1)/4).toNat
def rtV(a:Int):Int:=a^eR%bP
def Qj7(c:Int):Int:=if bP/2<c then(-c)%bP else c
def sqV(a:Int):Prop:=rtV a*rtV a%bP=a%bP
open Classical in
noncomputable def Y0(a:Int):List Int:=if sqV a then[Qj7 (rtV a),0]else[0,6]
theorem Zk8(a:Int):0<=rtV a/\rtV a<bP:=Zl Q5
theorem Zum{c:Int}(h:0<=c/\c<bP):0<=Qj7 c/\Qj7 c<bP:=by
 unfold Qj7;split
 ·exact Zl Q5
 ·exact h
theorem Zd5(a:Int):rtV (a%bP)=rtV a:=J7 (Ms _ (L5 _)) _
theorem Zr2(a:Int):sqV (a%bP)↔sqV a:=by unfold sqV;rw[Zd5,Ms _ (L5 _)]
theorem Zno{c:Int}(h0:0<c)(h1:c<bP):(-c)%bP=bP-c:=Jd (-1) (by omega) (by omega) (by omega)
theorem Zla{c:Int}(h:0<=c/\c<bP):(if(-c)%bP<c then(-c)%bP else c)=Qj7 c:=by
 unfold Qj7;have hodd:=Bj;generalize bP=p at *
 by_cases h0:c=0
 ·subst h0;rw[Int.neg_zero,Int.zero_emod,if_neg (by omega),if_neg (by omega)]
 ·have:(-c)%p=p-c:=Jd (-1) (by omega) (by omega) (by omega);rw[this];by_cases hc:p/2<c
  ·rw[if_pos hc,if_pos (by omega)]
  ·rw[if_neg hc,if_neg (by omega)]
def Zda(f:FuncId):K:={fn:=f,ext:=false,ins:=[iM,iN,iN],outs:=[oN],pre:=fun|[n,low,w,_,_]=>n=bP/\Wr n low w|_=>False,sem:=fun|[_,_,_,a,x]=>[a^x.toNat%bP]|_=>[] }
def Zcn(f:FuncId):K:={fn:=f,ext:=false,ins:=[iN,.one (.cst (.int .i64 (.lit (-2))))],outs:=[oN],pre:=fun _=>True,sem:=fun|[a]=>[a/4]|_=>[] }
noncomputable def Qsi(f:FuncId):K:={fn:=f,ext:=false,ins:=[iM,iN],outs:=[oN,oI],pre:=fun|[n,low,w,_]=>n=bP/\Wr n low w|_=>False,sem:=fun|[_,_,_,a]=>Y0 a|_=>[] }
def Zy(x:Int):Int:=(x*x*x+4)%bP
noncomputable def Zzb(f:FuncId):K:={fn:=f,ext:=false,ins:=[iN],outs:=[.agg Jn,oB],pre:=fun _=>True,sem:=fun|[x]=>[x,(Y0 (Zy x)).getD 0 0,0,bj (sqV (Zy x))]|_=>[] }
theorem Zoy{n low:Int}(h:mOk n low):low≠0:=fun h0=>by
 have:=h.1;rw[h0,H7]at this;exact absurd this (by decide)
theorem Qvy(n a b:Int):Xs n a b=Xs n b a:=by unfold Xs;rw[Mw a b]
def Zxx:Qn:=(.l 5 .bit (.c .eql (.v 1) (.n 0))
(.split 5
(.ret [.n 0])
(xw 3 [.v 0,.v 1,.v 2,.v 3,.v 2] 294 Q7
(xw 2 [.n 1] 390 Q7
(xw 3 [.v 0,.v 1,.v 2,.v 390,.v 2] 630 Q7
(xw 0 [.v 4] 870 qoa
(.l 871 kI (.b .sub .i64 (.v 870) (.n 1))
(.loop [.v 871,.v 630] [kI,.num] 872
(.l 874 .bit (.c .geq (.v 872) (.n 0))
(.split 874
(xw 3 [.v 0,.v 1,.v 2,.v 873,.v 873] 875 Q7
(xw 1 [.v 4,.v 872] 876 qoa
(.l 877 .bit (.c .eql (.v 876) (.n 1))
(.split 877
(xw 3 [.v 0,.v 1,.v 2,.v 875,.v 294] 878 Q7
(.l 879 kI (.b .sub .i64 (.v 872) (.n 1))
(.back 0 [.v 879,.v 878])))
(.l 878 kI (.b .sub .i64 (.v 872) (.n 1))
(.back 0 [.v 878,.v 875]))))))
(xw 2 [.n 1] 971 Q7
(xw 3 [.v 0,.v 1,.v 2,.v 873,.v 971] 1019 Q7
(.ret [.v 1019])))))))))))))
theorem Znl(f1 f2 f3 f4 f:FuncId)(e:Nat->Int)(hk:Qy [.num,.int .u64,.num,.num,.num] [e 0,e 1,e 2,e 3,e 4])(hp:(Zda f).pre [e 0,e 1,e 2,e 3,e 4]):Zxx.Xij [Qeu f1,Qwd f2,kOf f3,Qhr f4] ⟨fun ys=>ys=(Zda f).sem [e 0,e 1,e 2,e 3,e 4],[]⟩ e:=by
 obtain⟨q0,hm,hw⟩:e 0=bP/\Wr (e 0) (e 1) (e 2):=hp;rw[q0]at hw;have h4:0<=e 4/\e 4<Qv:=hk.2.2.2.2.1;have hwl:=Qhf (n:=bP) Q5;clear hk;show Zxx.Xij _ ⟨fun ys=>ys=[e 3^(e 4).toNat%bP],[]⟩ e;intro a5 _;have b5:=Zi a5;refine⟨fun h=>absurd (Zc b5 h) (Zoy hm),fun _=>?_⟩;refine⟨⟨hm,.inr (by show e 2<e 0;rw[hw,q0];exact hwl.2)⟩,fun a294 _=>⟨trivial,fun a390 _=>?_⟩⟩;have q294:e 294=Qo (e 3):=by rw[show e 294=Xs (e 0) (e 3) (e 2)from a294,q0,hw,Qvy];exact Xap
 have v390:e 390=1:=a390;refine⟨⟨hm,.inr (by show e 2<e 0;rw[hw,q0];exact hwl.2)⟩,fun a630 _=>⟨trivial,fun a870 _ a871 _=>?_⟩⟩;have q630:e 630=Qo 1:=by rw[show e 630=Xs (e 0) (e 390) (e 2)from a630,q0,hw,v390,Qvy];exact Xap
 have v870:e 870=Xa (e 4):=a870;have b0:=Ub (e 4);have b1:=Wp 384 (e 4) h4.1 (by rw[Zz3];exact h4.2);have v871:=Zqw (a:=e 870) (b:=1) a871 (by omega);clear a5 b5 a294 a390 v390 a630 a870 a871;refine⟨Qhg (e 3) (e 4),fun|[i,_]=>(i+1).toNat|_=>0,?_,fun e' he hkk hI=>?_⟩
 ·show Qhg (e 3) (e 4) [e 871,e 630];refine⟨by omega,by omega,?_⟩;rw[q630,v871,v870,Kt];have h1:e 4/2^(Xa (e 4)).toNat=0:=by
   by_cases hc:e 4<2^(Xa (e 4)).toNat
   ·exact L6 h4.1 hc
   ·have:=Qb3 (Xa (e 4)).toNat (e 4) (by omega);omega
  rw[h1,H5,H8]
 ·obtain⟨i1,i2,i3⟩:Qhg (e 3) (e 4) [e' 872,e' 873]:=hI;rw[<- he 3 (by decide)]at q294 i3;rw[<- he 4 (by decide)]at h4 i3;have e3:=he 3 (by decide);have e4:=he 4 (by decide);have q294:=(he 294 (by decide)).trans q294;have q0:=(he 0 (by decide)).trans q0;have hm:mOk (e' 0) (e' 1):=by rw[he 0 (by decide),he 1 (by decide)];exact hm
  rw[<- e3,<- e4];clear he hkk q630 v870 v871 b0 b1 hw e3 e4;intro a874 _;have b874:=Bt a874;simp only[Qm,Qp]at b874;refine⟨fun hs=>?_,fun hs=>?_⟩
  ·have c874:0<=e' 872:=Zc b874 hs;obtain⟨n,hi⟩:=Ow c874;rw[hi,show((n:Int)+1).toNat=n+1 by omega]at i3;have hE:∀ {v X:Int},v=Qo X->v<e' 0:=fun h=>by rw[q0];exact Qq h
   refine⟨⟨hm,.inl (hE i3)⟩,fun a875 _=>⟨trivial,fun a876 _ a877 _=>?_⟩⟩;have q875:=Zja (show e' 875=Xs bP (e' 873) (e' 873) by rw[<- q0];exact a875) i3 i3;have v876:e' 876=e' 4/2^n%2:=by
    rw[show e' 876=(if 0<=e' 872/\e' 872<384 then e' 4/2^(e' 872).toNat%2 else 0)from a876,if_pos ⟨c874,by omega⟩,hi,O9]
   have hh:=Qrg (i:=n) h4.1;have b877:=Zi a877;simp only[Qm,Qp]at b877;refine⟨fun hs2=>?_,fun hs2=>?_⟩
   ·have c877:e' 876=1:=Zc b877 hs2;refine⟨⟨hm,.inl (hE q875)⟩,fun a878 _ a879 _=>?_⟩;have q878:=Zja (show e' 878=Xs bP (e' 875) (e' 294) by rw[<- q0];exact a878) q875 q294;have v879:=Zqw (a:=e' 872) (b:=1) a879 (by omega);show Qhg (e' 3) (e' 4) [e' 879,e' 878]/\(e' 879+1).toNat<(e' 872+1).toNat;rw[v879,hi];refine⟨⟨by omega,by omega,?_⟩,by omega⟩;rw[show((n:Int)-1+1).toNat=n by omega,q878,hh,<- v876,c877,<- L9,<- M7];congr 2;omega
   ·have c877:e' 876=0:=by have:=Xf b877 hs2;omega
    intro a878 _;have v878:=Zqw (a:=e' 872) (b:=1) a878 (by omega);show Qhg (e' 3) (e' 4) [e' 878,e' 875]/\(e' 878+1).toNat<(e' 872+1).toNat;rw[v878,hi];refine⟨⟨by omega,by omega,?_⟩,by omega⟩;rw[show((n:Int)-1+1).toNat=n by omega,q875,hh,<- v876,c877,<- L9];congr 2;omega
  ·have c874:e' 872=-1:=by have:=Xf b874 hs;omega
   refine⟨trivial,fun a971 _=>?_⟩;have v971:e' 971=1:=a971;rw[c874,show((-1:Int)+1).toNat=0 from rfl,H8,Hg]at i3;refine⟨⟨hm,.inl (by show e' 873<e' 0;rw[q0];exact Qq i3)⟩,fun a1019 _=>?_⟩;show[e' 1019]=_;rw[show e' 1019=Xs (e' 0) (e' 873) (e' 971)from a1019,q0,v971,Zlg,i3,Z7]
theorem Qt3{v s r ln lj:Int}(h:v=Qw .or .u64 s r)(hs:s=Qw .shl .u64 ln 62)(hr:r=Qw .shr .u64 lj 2)(un:U ln)(uj:U lj):v=ln%4*4611686018427387904+lj/4:=by
 have h1:=Qjk 4611686018427387904 hs (by decide);have h2:=Vy 4 hr rfl (by decide);unfold U at *
 simp only[wr]at h1;rw[Qah (k:=62) (q:=ln%4) h (by omega) (by omega) (by omega) (by omega)];omega
theorem Xfn{v r lj:Int}(h:v=Qw .or .u64 0 r)(hr:r=Qw .shr .u64 lj 2)(uj:U lj):v=lj/4:=by
 have h2:=Vy 4 hr rfl (by decide);unfold U at *
 rw[Qah (k:=63) (q:=0) h (by omega) (by omega) (by omega) (by omega)];omega
theorem Qy7{x o0 o1 o2 o3 o4 o5:Int}(hx:0<=x/\x<Qv)(h0:o0=Q0 x 1%4*4611686018427387904+Q0 x 0/4)(h1:o1=Q0 x 2%4*4611686018427387904+Q0 x 1/4)(h2:o2=Q0 x 3%4*4611686018427387904+Q0 x 2/4)
  (h3:o3=Q0 x 4%4*4611686018427387904+Q0 x 3/4) (h4:o4=Q0 x 5%4*4611686018427387904+Q0 x 4/4) (h5:o5=Q0 x 5/4):Y2 [o0,o1,o2,o3,o4,o5]=x/4:=by
 have ex:=Zz hx;have l0:=Qs x 0;have l1:=Qs x 1;have l2:=Qs x 2;have l3:=Qs x 3;have l4:=Qs x 4;have l5:=Qs x 5;rw[Jq];generalize Q0 x 0=x0 at *
 generalize Q0 x 1=x1 at *
 generalize Q0 x 2=x2 at *
 generalize Q0 x 3=x3 at *
 generalize Q0 x 4=x4 at *
 generalize Q0 x 5=x5 at *
 omega
def Xeu:Qn:=(.l 1 kU (.b .shl .u64 (.m 0 1) (.n 62))
(.l 386 kU (.b .shr .u64 (.m 0 0) (.n 2))
(.l 434 kU (.b .or .u64 (.v 1) (.v 386))
(.l 578 kU (.b .shl .u64 (.m 0 2) (.n 62))
(.l 963 kU (.b .shr .u64 (.m 0 1) (.n 2))
(.l 1011 kU (.b .or .u64 (.v 578) (.v 963))
(.l 1155 kU (.b .shl .u64 (.m 0 3) (.n 62))
(.l 1540 kU (.b .shr .u64 (.m 0 2) (.n 2))
(.l 1588 kU (.b .or .u64 (.v 1155) (.v 1540))
(.l 1732 kU (.b .shl .u64 (.m 0 4) (.n 62))
(.l 2117 kU (.b .shr .u64 (.m 0 3) (.n 2))
(.l 2165 kU (.b .or .u64 (.v 1732) (.v 2117))
(.l 2309 kU (.b .shl .u64 (.m 0 5) (.n 62))
(.l 2694 kU (.b .shr .u64 (.m 0 4) (.n 2))
(.l 2742 kU (.b .or .u64 (.v 2309) (.v 2694))
(.l 3270 kU (.b .shr .u64 (.m 0 5) (.n 2))
(.l 3318 kU (.b .or .u64 (.n 0) (.v 3270))
(.l 3462 .num (.join [.v 434,.v 1011,.v 1588,.v 2165,.v 2742,.v 3318])
(.ret [.v 3462])))))))))))))))))))
theorem Zn9(f:FuncId)(e:Nat->Int)(hk:Qy [.num] [e 0]):Xeu.Xij [] ⟨fun ys=>ys=(Zcn f).sem [e 0],[]⟩ e:=by
 have h0:=hk.1;have z:=Qes e;intro s1 _ r1 _ o1 _ s2 _ r2 _ o2 _ s3 _ r3 _ o3 _ s4 _ r4 _ o4 _ s5 _ r5 _ o5 _ r6 _ o6 _ aj _;have hj:=Qy7 h0 (Qt3 o1 s1 r1 (z _ _) (z _ _)) (Qt3 o2 s2 r2 (z _ _) (z _ _)) (Qt3 o3 s3 r3 (z _ _) (z _ _)) (Qt3 o4 s4 r4 (z _ _) (z _ _)) (Qt3 o5 s5 r5 (z _ _) (z _ _)) (Xfn o6 r6 (z _ _));show[e 3462]=[e 0/4]
 rw[<- hj];exact congrArg (fun x=>[x]) aj
theorem Xci:Qw .and .u64 (Q0 bP 0) 3=3:=by decide +kernel
theorem Zxl:((bP+1)%Qv/4).toNat=eR:=by decide +kernel
def Zkf:Qn:=(.l 4 .bit (.c .eql (.v 1) (.n 0))
(.split 4
(.ret [.n 0,.n 1])
(.l 5 kU (.b .and .u64 (.m 0 0) (.n 3))
(.l 6 .bit (.c .eql (.v 5) (.n 1))
(.split 6
(.ret [.n 0,.n 2])
(xw 1 [.n 1] 199 Q7
(xw 0 [.v 0,.v 199] 247 qja
(xw 2 [.v 247] 727 Q7
(xw 3 [.v 0,.v 1,.v 2,.v 3,.v 727] 775 Q7
(xw 4 [.v 0,.v 1,.v 2,.v 775,.v 775] 1063 Q7
(xw 5 [.v 0,.v 1,.v 2,.v 3] 1207 Q7
(.l 1255 .bit (.eqs [((.m 1063 0),(.m 1207 0)),((.m 1063 1),(.m 1207 1)),((.m 1063 2),(.m 1207 2)),((.m 1063 3),(.m 1207 3)),((.m 1063 4),(.m 1207 4)),((.m 1063 5),(.m 1207 5))])
(.l 1256 .bit (.not (.v 1255))
(.split 1256
(.ret [.n 0,.n 6])
(xw 6 [.v 0,.v 1,.v 2,.v 775] 1303 Q7
(xw 7 [.v 1303,.v 775] 1304 qoa
(.l 1305 .bit (.c .lss (.v 1304) (.n 0))
(.split 1305
(.ret [.v 1303,.n 0])
(.ret [.v 775,.n 0])))))))))))))))))))
theorem Zfr(f1 f2 f3 f4 f5 f6 f7 f8 f:FuncId)(e:Nat->Int)(hk:Qy [.num,.int .u64,.num,.num] [e 0,e 1,e 2,e 3])(hp:(Qsi f).pre [e 0,e 1,e 2,e 3]):Zkf.Xij [Qdj f1,kOf f2,Zcn f3,Zda f4,Qpj f5,W4 f6,Quw f7,Yj f8] ⟨fun ys=>ys=(Qsi f).sem [e 0,e 1,e 2,e 3],[]⟩ e:=by
 obtain⟨q0,hg⟩:e 0=bP/\Wr (e 0) (e 1) (e 2):=hp;clear hk;show Zkf.Xij _ ⟨fun ys=>ys=Y0 (e 3),[]⟩ e;intro a4 _;have b4:=Zi a4;refine⟨fun h=>absurd (Zc b4 h) (Zoy hg.1),fun _=>?_⟩;intro a5 _ a6 _;have v5:e 5=3:=by rw[show e 5=Qw .and .u64 (Q0 (e 0) 0) 3 from a5,q0,Xci]
 have b6:=Zi a6;refine⟨fun h=>absurd (v5.symm.trans (Zc b6 h)) (show ¬(3:Int)=1 by decide),fun _=>⟨trivial,fun a199 _=>⟨trivial,fun a247 _ a248 _=>⟨trivial,fun a727 _=>⟨⟨q0,hg⟩,fun a775 _=>⟨hg,fun a1063 k1063=>⟨hg,fun a1207 k1207 a1255 _ a1256 _=>?_⟩⟩⟩⟩⟩⟩⟩;have v775:e 775=rtV (e 3):=by
  rw[show e 775=e 3^(e 727).toNat%bP from a775,show e 727=e 247/4 from a727,show e 247=(e 0+e 199)%Qv from a247,show e 199=1 from a199,q0,Zxl];rfl
 have v1063:e 1063=rtV (e 3)*rtV (e 3)%bP:=by rw[show e 1063=e 775*e 775%e 0 from a1063,v775,q0]
 have v1207:e 1207=e 3%bP:=by rw[show e 1207=e 3%e 0 from a1207,q0]
 have b1255:=Qmx a1255 k1063 k1207;have b1256:=Z6 a1256;simp only[Qm]at b1256;rw[v1063,v1207]at b1255;refine⟨fun h=>?_,fun h=>?_⟩
 ·have hs:¬sqV (e 3):=by
   have:=Zc b1256 h;rcases b1255 with⟨h1,_⟩|⟨_,h2⟩
   ·omega
   ·exact h2
  show[(0:Int),6]=Y0 (e 3);unfold Y0;rw[if_neg hs]
 have hs:sqV (e 3):=by
  have:=Xf b1256 h;rcases b1255 with⟨_,h2⟩|⟨h1,_⟩
  ·exact h2
  ·exact absurd h1 this
 have hr:=Zla (Zk8 (e 3));refine⟨hg,fun a1303 _=>⟨trivial,fun a1304 _ a1305 _=>?_⟩⟩;have v1303:e 1303=(-rtV (e 3))%bP:=by rw[show e 1303=(-e 775)%e 0 from a1303,v775,q0]
 have v1304:=Ug (show e 1304=(if e 1303<e 775 then -1 else if e 1303=e 775 then 0 else 1)from a1304);rw[v775,v1303]at v1304;have b1305:=Va a1305;simp only[Qm,Qp]at b1305;refine⟨fun h=>?_,fun h=>?_⟩
 ·have:=v1304.1 (Zc b1305 h);rw[if_pos this]at hr;show[e 1303,0]=Y0 (e 3);unfold Y0;rw[if_pos hs,v1303,hr]
 ·have:¬_:=fun hc=>Xf b1305 h (v1304.2 hc)
  rw[if_neg this]at hr;show[e 775,0]=Y0 (e 3);unfold Y0;rw[if_pos hs,v775,<- hr]
def Xd2:Qn:=(xw 1 [] 1 Q7
(xw 0 [.v 1] 2 [.num,kU,.num]
(xw 4 [.v 2,.v 3,.v 4,.v 0,.v 0] 293 Q7
(xw 4 [.v 2,.v 3,.v 4,.v 293,.v 0] 389 Q7
(xw 5 [.n 4] 437 Q7
(xw 3 [.v 2,.v 3,.v 4,.v 389,.v 437] 485 Q7
(xw 2 [.v 2,.v 3,.v 4,.v 485] 533 qsa
(.l 869 .bit (.c .eql (.v 534) (.n 0))
(.ret [.v 0,.v 533,.n 0,.v 869])))))))))
theorem Zsr(te:TypeId)(f1 f2 f3 f4 f5 f6 f:FuncId)(e:Nat->Int):Xd2.Xij [Qgb f1 te,Qam f2,Qsi f3,Qi4 f4,Qpj f5,kOf f6] ⟨fun ys=>ys=(Zzb f).sem [e 0],[]⟩ e:=by
 show Xd2.Xij _ ⟨fun ys=>ys=[e 0,(Y0 (Zy (e 0))).getD 0 0,0,bj (sqV (Zy (e 0)))],[]⟩ e;refine⟨trivial,fun a1 _=>?_⟩;have q1:e 1=bP:=a1;have h2:e 1%2=1:=by rw[q1];exact Bj
 have h3:3<=e 1:=by rw[q1];decide
 have h4:e 1<2^382:=by rw[q1];exact Zy9
 refine⟨⟨h2,h3,h4⟩,fun a2 _ a3 _ a4 _=>?_⟩;have v2:e 2=e 1:=a2;have q2:e 2=bP:=v2.trans q1;have hg:Wr (e 2) (e 3) (e 4):=by
  rw[v2,show e 3=Qeh (e 1)from a3,show e 4=Z9 (e 1)from a4];exact Qgh h2 h3 h4
 refine⟨hg,fun a293 _=>⟨hg,fun a389 _=>⟨trivial,fun a437 _=>⟨hg,fun a485 _=>⟨⟨q2,hg⟩,fun a533 _ a534 _ a869 _=>?_⟩⟩⟩⟩⟩;have m1:e 293%bP=e 0*e 0%bP:=by rw[show e 293=e 0*e 0%e 2 from a293,q2,Ms _ (L5 _)]
 have m2:e 389%bP=e 0*e 0*e 0%bP:=by
  rw[show e 389=e 293*e 0%e 2 from a389,q2,Ms _ (L5 _)];exact Q2 m1 rfl
 have m3:e 485=Zy (e 0):=by
  rw[show e 485=(e 389+e 437)%e 2 from a485,q2,show e 437=4 from a437];exact Z8 m2 rfl
 have v533:e 533=(Y0 (e 485)).getD 0 0:=a533;have v534:e 534=(Y0 (e 485)).getD 1 0:=a534;rw[m3]at v533 v534;have b:=Zi a869;simp only[Qm,Qp]at b;show[e 0,e 533,0,e 869]=_;rw[v533];refine congrArg (fun x=>[e 0,(Y0 (Zy (e 0))).getD 0 0,0,x]) (Qgy ?_);by_cases hs:sqV (Zy (e 0))
 ·rw[Y0,if_pos hs]at v534;rcases b with⟨h1,_⟩|⟨_,h2⟩
  ·exact .inl ⟨h1,hs⟩
  ·exact absurd v534 h2
 ·rw[Y0,if_neg hs]at v534;rcases b with⟨_,h1⟩|⟨h2,_⟩
  ·rw[h1]at v534;exact absurd v534 (by decide)
  ·exact .inr ⟨h2,hs⟩
theorem Qpd{v w b:Int}(h:v=X6 (Ur .leq w b))(hw:w<=b):v≠0:=by have:=Xcs h;omega
theorem Xau{c:Int}:Qj7 c*Qj7 c%bP=c*c%bP:=by
 unfold Qj7;split
 ·have h:(-c)%bP%bP=(-c)%bP:=Ms _ (L5 _);rw[Q2 h h,Hb]
 ·rfl
theorem Xdt{x y:Int}(hx:x<bP)(hy:y<bP)(h:y*y%bP=Zy x):onV x y 0:=⟨⟨hx,hy⟩,by rw[if_pos rfl];exact h⟩
theorem Zoq(x:Int):Zy x%bP=Zy x:=Ms _ (L5 _)
theorem Zyu{x:Int}(hx:x<bP)(h:sqV (Zy x)):onV x (Qj7 (rtV (Zy x))) 0:=Xdt hx (Zum (Zk8 _)).2 (Xau.trans (h.trans (Zoq x)))
end Go.Sx

namespace Go.Sx
open Go Go.RowKit
set_option maxRecDepth 100000
def prP(p:Int):Prop:=p=786251∨p=1152921504606846223
theorem Zkm{p:Int}(h:prP p):pOk p:=by rcases h with rfl|rfl <;> exact⟨by decide,by decide⟩
theorem Zy1{p:Int}(h:prP p):p%2=1:=by rcases h with rfl|rfl <;> decide
theorem Xac{p:Int}(h:prP p):Np.isP p.toNat:=by
 rcases h with rfl|rfl
 ·exact Np.p786251
 ·exact Np.p_mid7
theorem Qal{p a b:Int}:a%p=b%p↔p∣a-b:=by
 constructor
 ·intro h;exact Int.dvd_of_emod_eq_zero (Int.emod_eq_emod_iff_emod_sub_eq_zero.1 h)
 ·intro h;exact Int.emod_eq_emod_iff_emod_sub_eq_zero.2 (Hd h)
theorem Zab{p a:Int}(hp:prP p)(h0:0<=a)(hn:¬p∣a):p∣a*Qb2 p a-1:=by
 have ok:=Zkm hp;have hP:=Xac hp;obtain⟨n,rfl⟩:=Ow h0;obtain⟨q,rfl⟩:=Ow (show 0<=p by have:=ok.1;omega);have hq:3<=q:=by have:=ok.1;omega
 have hf:=Np.fermat (x:=n) hP (fun h=>hn (Int.natCast_dvd_natCast.2 (by simpa using h)));rw[O9]at hf;refine Qal.1 ?_;unfold Qb2 pwM;rw[O9,O9,show((q:Int)-2).toNat=q-2 by omega];have:n*(n^(q-2)%q)%q=1:=by
  rw[Nat.mul_mod,Nat.mod_mod,<- Nat.mul_mod,Nat.mul_comm,<- Nat.pow_succ,show(q-2).succ=q-1 by omega];exact hf
 rw[show(1:Int)%(q:Int)=((1:Nat):Int)from Ox (by decide) (by omega),<- this];simp only[Int.natCast_mul,H3]
theorem Qug{p x1 y1 x2 y2 m i:Int}(h1:p∣y1*y1-(x1*x1*x1+x1))(h2:p∣y2*y2-(x2*x2*x2+x2))(hi:p∣(x2-x1)*i-1)(hm:p∣m*(x2-x1)-(y2-y1)) :
  p∣(m*(x1-(m*m-x1-x2))-y1)*(m*(x1-(m*m-x1-x2))-y1)-((m*m-x1-x2)*(m*m-x1-x2)*(m*m-x1-x2)+(m*m-x1-x2)):=by
 have h:(m*(x1-(m*m-x1-x2))-y1)*(m*(x1-(m*m-x1-x2))-y1)-((m*m-x1-x2)*(m*m-x1-x2)*(m*m-x1-x2)+(m*m-x1-x2)) =
   (y2*y2-(x2*x2*x2+x2))*(i*(m*m-x1-x2-x1))+(m*(x2-x1)-(y2-y1))*((y1+m*(x2-x1)+y2)*i*(m*m-x1-x2-x1))+(y1*y1-(x1*x1*x1+x1))*(1-i*(m*m-x1-x2-x1)) +
   ((x2-x1)*i-1)*((1-2*m*(y1-m*x1)-(x1*x2+(x1+x2)*(m*m-x1-x2)))*(m*m-x1-x2-x1)):=by grind
 rw[h];exact Oaq (Oaq (Oaq (He h2) (He hm)) (He h1)) (He hi)
theorem Zgc{p x1 y1 m:Int}(h1:p∣y1*y1-(x1*x1*x1+x1))(hm:p∣m*(y1+y1)-(x1*x1+x1*x1+x1*x1+1)) :
  p∣(m*(x1-(m*m-x1-x1))-y1)*(m*(x1-(m*m-x1-x1))-y1)-((m*m-x1-x1)*(m*m-x1-x1)*(m*m-x1-x1)+(m*m-x1-x1)):=by
 have h:(m*(x1-(m*m-x1-x1))-y1)*(m*(x1-(m*m-x1-x1))-y1)-((m*m-x1-x1)*(m*m-x1-x1)*(m*m-x1-x1)+(m*m-x1-x1)) =
   (m*(y1+y1)-(x1*x1+x1*x1+x1*x1+1))*(m*m-x1-x1-x1)+(y1*y1-(x1*x1*x1+x1)):=by grind
 rw[h];exact Oaq (He hm) h1
theorem md2(x p:Int):x%p%p=x%p:=Ms _ (L5 _)
theorem Qob(p x:Int):Yz p x=(x*x*x+x)%p:=by
 unfold Yz;have h1:x*x%p*x%p%p=x*x*x%p:=(md2 _ _).trans (Q2 (md2 (x*x) p) rfl);exact Z8 h1 rfl
def onL(p:Int)(a:Pt):Prop:=Bp p a.x a.y a.z/\(0<=a.x/\0<=a.y)/\(a.z=0∨a.z=1)
theorem onL.lt{p:Int}(hp:0<p){a:Pt}(h:onL p a):a.lt p:=by
 have:=h.1;unfold Bp at this;have h2:=h.2.1;split at this
 ·exact⟨⟨h2.1,this.1⟩,h2.2,this.2.1⟩
 ·exact⟨⟨h2.1,by omega⟩,h2.2,by omega⟩
theorem onL.eq{p:Int}{a:Pt}(h:onL p a)(hz:a.z=0):p∣a.y*a.y-(a.x*a.x*a.x+a.x):=by
 have:=h.1;unfold Bp at this;rw[if_pos hz,Qob]at this;exact Qal.1 this.2.2
theorem Qo6(p:Int):onL p ⟨0,0,1⟩:=⟨by unfold Bp;rw[if_neg (by decide)];exact⟨rfl,rfl⟩,⟨Int.le_refl _,Int.le_refl _⟩,.inr rfl⟩
theorem Zom{p x1 y1 x2 m:Int}(hp:0<p)(h:p∣(m*(x1-(m*m-x1-x2))-y1)*(m*(x1-(m*m-x1-x2))-y1)-((m*m-x1-x2)*(m*m-x1-x2)*(m*m-x1-x2)+(m*m-x1-x2))) :
  onL p ⟨((m*m%p-x1)%p-x2)%p,(m*((x1-((m*m%p-x1)%p-x2)%p)%p)%p-y1)%p,0⟩:=by
 have hx:((m*m%p-x1)%p-x2)%p=(m*m-x1-x2)%p:=Ye ((md2 _ _).trans (Ye (md2 _ _) rfl)) rfl;have hy:(m*((x1-(m*m-x1-x2)%p)%p)%p-y1)%p=(m*(x1-(m*m-x1-x2))-y1)%p:=Ye ((md2 _ _).trans (Q2 rfl ((md2 _ _).trans (Ye rfl (md2 _ _))))) rfl;rw[hx,hy];generalize hX:m*m-x1-x2=X at *
 generalize hY:m*(x1-X)-y1=Y at *
 have l1:=Zl (x:=X) hp;have l2:=Zl (x:=Y) hp;refine⟨?_,⟨l1.1,l2.1⟩,.inl rfl⟩;unfold Bp;rw[if_pos rfl,Qob];refine⟨l1.2,l2.2,?_⟩;rw[Q2 (md2 Y p) (md2 Y p),Z8 (Q2 (Q2 (md2 X p) (md2 X p)) (md2 X p)) (md2 X p)];exact Qal.2 h
theorem Zxa{p a:Int}(h0:0<a)(h1:a<p):¬p∣a:=fun h=>by
 have:=Hd h;rw[Ox (by omega) h1]at this;omega
theorem Zzg{p a b:Int}(ha:0<=a/\a<p)(hb:0<=b/\b<p)(h:a≠b):¬p∣(b-a)%p:=fun hc=>by
 have h1:=Zl (x:=b-a) (n:=p) (by omega);have h2:(b-a)%p=0:=by have:=Hd hc;rwa[md2]at this
 have h3:=Int.dvd_of_emod_eq_zero h2;rcases Int.lt_trichotomy a b with h4|h4|h4
 ·exact Zxa (by omega) (by omega) h3
 ·exact h h4
 ·have:p∣a-b:=by rw[show a-b=-(b-a) by omega];exact(Int.dvd_neg).2 h3
  exact Zxa (by omega) (by omega) this
theorem Qjb{p x y x' y':Int}(hp:prP p)(hx:0<=x/\x<p)(hx':0<=x'/\x'<p)(h:x≠x'):∃i,p∣(x'-x)*i-1/\p∣(y'-y)%p*Qb2 p ((x'-x)%p)%p*(x'-x)-(y'-y):=by
 have hi:=Zab hp (Zl (x:=x'-x) (by have:=(Zkm hp).1;omega)).1 (Zzg hx hx' h);refine⟨Qb2 p ((x'-x)%p),?_,?_⟩
 ·refine Qal.1 ?_;have:=Qal.2 hi;rw[<- this];exact Q2 (md2 _ _).symm rfl
 ·generalize Qb2 p ((x'-x)%p)=i at *
  have h1:=Qal.2 hi;refine Qal.1 ?_;have e1:((y'-y)%p*i%p*(x'-x))%p=((y'-y)*((x'-x)%p*i))%p:=by
   rw[show(y'-y)*((x'-x)%p*i)=(y'-y)*i*((x'-x)%p) by rw[Mw ((x'-x)%p) i,Kx]];exact Q2 ((md2 _ _).trans (Q2 (md2 _ _) rfl)) (md2 _ _).symm
  rw[e1,Q2 (p:=p) rfl h1,Ha]
theorem Qps{p x y:Int}(hp:prP p)(hy:0<y/\y<p):p∣(((x*x%p+x*x%p)%p+x*x%p)%p+1)%p*Qb2 p ((y+y)%p)%p*(y+y)-(x*x+x*x+x*x+1):=by
 have ho:=Zy1 hp;have p0:0<p:=by omega
 have hn:¬p∣(y+y)%p:=fun hc=>by
  have h2:(y+y)%p=0:=by have:=Hd hc;rwa[md2]at this
  rcases Int.lt_or_le (y+y) p with h|h
  ·rw[Ox (by omega) h]at h2;omega
  ·have:(y+y)%p=y+y-p:=Jd 1 (by omega) (by omega) (by omega);omega
 have hi:=Zab hp (Zl (x:=y+y) p0).1 hn;generalize Qb2 p ((y+y)%p)=i at *
 have h1:=Qal.2 hi;refine Qal.1 ?_;have q:=md2 (x*x) p;have e0:(((x*x%p+x*x%p)%p+x*x%p)%p+1)%p%p=(x*x+x*x+x*x+1)%p:=(md2 _ _).trans (Z8 ((md2 _ _).trans (Z8 ((md2 _ _).trans (Z8 q q)) q)) rfl);generalize (((x*x%p+x*x%p)%p+x*x%p)%p+1)%p=u at *
 generalize x*x+x*x+x*x+1=v at *
 have e1:(u*i%p*(y+y))%p=(v*((y+y)%p*i))%p:=by
  rw[show v*((y+y)%p*i)=v*i*((y+y)%p) by rw[Mw ((y+y)%p) i,Kx]];exact Q2 ((md2 _ _).trans (Q2 e0 rfl)) (md2 _ _).symm
 rw[e1,Q2 (p:=p) rfl h1,Ha]
theorem Qi2{p:Int}(hp:prP p){a b:Pt}(ha:onL p a)(hb:onL p b):onL p (Xv p a b):=by
 have p0:0<p:=by have:=(Zkm hp).1;omega
 have la:=ha.lt p0;have lb:=hb.lt p0;unfold Xv;split
 ·exact hb
 ·rename_i hza;split
  ·exact ha
  ·rename_i hzb;have ea:=ha.eq (by omega);have eb:=hb.eq (by omega);unfold Y8;by_cases hx:a.x≠b.x
   ·rw[if_pos hx];simp only[];rw[if_neg (by decide)];obtain⟨i,h1,h2⟩:=Qjb (y:=a.y) (y':=b.y) hp la.1 lb.1 hx;exact Zom p0 (Qug ea eb h1 h2)
   ·rw[if_neg hx];by_cases hy:a.y≠b.y∨a.y=0
    ·rw[if_pos hy];simp only[];rw[if_pos trivial];exact Qo6 p
    ·rw[if_neg hy];simp only[];rw[if_neg (by decide)];have hx':b.x=a.x:=by omega
     have:=Qps (x:=a.x) (y:=a.y) hp ⟨by have:=la.2.1;omega,la.2.2⟩;rw[hx'];exact Zom p0 (Zgc ea this)
theorem mul_ok{p:Int}(hp:prP p){a:Pt}(ha:onL p a):∀(k n:Nat),onL p (Zs p a k n)
 |0,_=>Qo6 p
 |k+1,n=>by
  unfold Zs;split
  ·exact Qo6 p
  ·simp only[];have h:=mul_ok hp ha k (n/2);split
   ·exact Qi2 hp (Qi2 hp h h) ha
   ·exact Qi2 hp h h
end Go.Sx

namespace Go.Sx
open Go Go.RowKit
set_option maxRecDepth 100000
def Zpv:ByteArray:=⟨#[48,49,50,51,52,53,54,55,56,57,97,98,99,100,101,102]⟩
def Qhx(f:FuncId):K:={fn:=f,ext:=true,ins:=[.one (.cst (.str Zpv)),.one (.int .u8)],outs:=[oI],pre:=fun _=>True,sem:=fun|[c]=>[if 48<=c/\c<=57 then c-48 else if 97<=c/\c<=102 then c-87 else -1]|_=>[],fold:=true }
theorem Zt7:∀c:Nat,c<256->Lib.indexByte Zpv.data.toList (c.toUInt8)=if 48<=(c:Int)/\(c:Int)<=57 then(c:Int)-48 else if 97<=(c:Int)/\(c:Int)<=102 then(c:Int)-87 else -1:=by decide +kernel
theorem Xb3{P:Program}{f:FuncId}{fn:Func}(hf:P.funcs[f]?=some fn)(h1:(fn.name == "runtime.NumGoroutine")=false)(h2:fn.body.isNone=true)(h3:Extern.findNext fn=none)(h4:Extern.find fn=some Extern.BytealgIndexByte.indexByte):(Qhx f).ok P:=by
 intro w _ args xs hin hpre
 match args,hin with
 |u::args,hin =>
  obtain⟨_,hu,hin⟩:=hin;have hu:[u]=[Value.string Zpv]:=hu;obtain rfl:=List.head_eq_of_cons_eq hu;have hin:Uw w [.one (.int .u8)] xs args:=hin;obtain⟨c,xs,args,rfl,rfl,hc,hin⟩:=Qfl hin;obtain⟨rfl,rfl⟩:=Qxs hin;have hc0:0<=c/\c<=255:=hc;obtain⟨n,rfl⟩:=Ow hc0.1;have hv:=Zt7 n (by omega);simp only[Qhx,if_true];refine⟨[.int .i64 (if 48<=(n:Int)/\(n:Int)<=57 then(n:Int)-48 else if 97<=(n:Int)/\(n:Int)<=102 then(n:Int)-87 else -1)],?_,?_⟩
  ·rw[run_callFunc_extern hf h1 h2 h3 h4];rw[show([Value.string Zpv,.int .u8 (n:Int)]:List Value).toArray=#[.string Zpv,.int .u8 (n:Int)]from rfl,Lib.run_indexByteString,O9,hv];rfl
  ·refine⟨⟨?_,trivial⟩,rfl,rfl,rfl⟩;simp only[has,lo,hi];split
   ·omega
   ·split <;> omega
def Qa8(f:FuncId):K:={fn:=f,ext:=false,ins:=[iN,.one (.cst (.int .i64 (.lit 4)))],outs:=[oN],pre:=fun|[a]=>a<2^380|_=>False,sem:=fun|[a]=>[16*a]|_=>[] }
theorem Xfu{v x:Int}(h:v=Qw .shl .u64 x 4):v=16*x%18446744073709551616:=by
 have:=Qjk 16 h rfl;simp only[wr]at this;omega
theorem Zlf{v s r lj lp:Int}(h:v=Qw .or .u64 s r)(hs:s=Qw .shl .u64 lj 4)(hr:r=Qw .shr .u64 lp 60)(uj:U lj)(up:U lp):v=16*lj%18446744073709551616+lp/1152921504606846976:=by
 have h1:=Qjk 16 hs rfl;have h2:=Vy 1152921504606846976 hr (by decide) (by decide);unfold U at *
 simp only[wr]at h1;rw[Qah (k:=4) (q:=lj%1152921504606846976) h (by omega) (by omega) (by omega) (by omega)];omega
theorem Zlk{x o0 o1 o2 o3 o4 o5:Int}(hx:0<=x/\x<Qv)(hs:x<2462625387274654950767440006258975862817483704404090416746768337765357610718575663213391640930307227550414249394176)(h0:o0=16*Q0 x 0%18446744073709551616)(h1:o1=16*Q0 x 1%18446744073709551616+Q0 x 0/1152921504606846976)
  (h2:o2=16*Q0 x 2%18446744073709551616+Q0 x 1/1152921504606846976) (h3:o3=16*Q0 x 3%18446744073709551616+Q0 x 2/1152921504606846976) (h4:o4=16*Q0 x 4%18446744073709551616+Q0 x 3/1152921504606846976)
  (h5:o5=16*Q0 x 5%18446744073709551616+Q0 x 4/1152921504606846976):Y2 [o0,o1,o2,o3,o4,o5]=16*x:=by
 have ex:=Zz hx;have l0:=Qs x 0;have l1:=Qs x 1;have l2:=Qs x 2;have l3:=Qs x 3;have l4:=Qs x 4;have l5:=Qs x 5;rw[Jq];generalize Q0 x 0=x0 at *
 generalize Q0 x 1=x1 at *
 generalize Q0 x 2=x2 at *
 generalize Q0 x 3=x3 at *
 generalize Q0 x 4=x4 at *
 generalize Q0 x 5=x5 at *
 omega
def Xf4:Qn:=(.l 1 kU (.b .shl .u64 (.m 0 0) (.n 4))
(.l 2 kU (.b .shl .u64 (.m 0 1) (.n 4))
(.l 387 kU (.b .shr .u64 (.m 0 0) (.n 60))
(.l 435 kU (.b .or .u64 (.v 2) (.v 387))
(.l 579 kU (.b .shl .u64 (.m 0 2) (.n 4))
(.l 964 kU (.b .shr .u64 (.m 0 1) (.n 60))
(.l 1012 kU (.b .or .u64 (.v 579) (.v 964))
(.l 1156 kU (.b .shl .u64 (.m 0 3) (.n 4))
(.l 1541 kU (.b .shr .u64 (.m 0 2) (.n 60))
(.l 1589 kU (.b .or .u64 (.v 1156) (.v 1541))
(.l 1733 kU (.b .shl .u64 (.m 0 4) (.n 4))
(.l 2118 kU (.b .shr .u64 (.m 0 3) (.n 60))
(.l 2166 kU (.b .or .u64 (.v 1733) (.v 2118))
(.l 2310 kU (.b .shl .u64 (.m 0 5) (.n 4))
(.l 2695 kU (.b .shr .u64 (.m 0 4) (.n 60))
(.l 2743 kU (.b .or .u64 (.v 2310) (.v 2695))
(.l 2887 .num (.join [.v 1,.v 435,.v 1012,.v 1589,.v 2166,.v 2743])
(.ret [.v 2887]))))))))))))))))))
theorem Zq9(f:FuncId)(e:Nat->Int)(hk:Qy [.num] [e 0])(hp:(Qa8 f).pre [e 0]):Xf4.Xij [] ⟨fun ys=>ys=(Qa8 f).sem [e 0],[]⟩ e:=by
 have h0:=hk.1;have hp:e 0<2^380:=hp;rw[show(2:Int)^380=2462625387274654950767440006258975862817483704404090416746768337765357610718575663213391640930307227550414249394176 by decide +kernel]at hp;have z:=Qes e;intro s0 _ s1 _ r1 _ o1 _ s2 _ r2 _ o2 _ s3 _ r3 _ o3 _ s4 _ r4 _ o4 _ s5 _ r5 _ o5 _ oj _;show[e 2887]=[16*e 0]
 rw[show e 2887=_ from oj];exact congrArg (fun x=>[x]) (Zlk h0 hp (Xfu s0) (Zlf o1 s1 r1 (z _ _) (z _ _)) (Zlf o2 s2 r2 (z _ _) (z _ _)) (Zlf o3 s3 r3 (z _ _) (z _ _)) (Zlf o4 s4 r4 (z _ _) (z _ _)) (Zlf o5 s5 r5 (z _ _) (z _ _)))
def g1X:Int:=3685416753713387016781088315183077757961620795782546409894578378688607592378376318836054947676345821548104185464507
def g1Y:Int:=1339506544944476473020471379941921221584933875938349620426543736416511423956333506472724655353366534992391756441569
def Qww(f:FuncId):K:={fn:=f,ext:=false,ins:=[],outs:=[.agg Jn],pre:=fun _=>True,sem:=fun _=>[g1X,g1Y,0] }
def Qhu:Qby:=fun g ws=>match g,ws with
 |0,[.wi c]=>some [.wi (if 48<=c/\c<=57 then c-48 else if 97<=c/\c<=102 then c-87 else -1)]
 |1,[.wi a]=>if a<2462625387274654950767440006258975862817483704404090416746768337765357610718575663213391640930307227550414249394176 then some [.wi (16*a)]else none
 |_,_=>none
def Xbs:List W->Bool|[.wi a,.wi b,.wi c]=>a==g1X&&b==g1Y&&c==0|_=>false
theorem Zog{t:Qn}(hc:t.clo Qhu Xbs []=true)(f1 f2 f:FuncId)(e:Nat->Int):t.Xij [Qhx f1,Qa8 f2] ⟨fun ys=>ys=(Qww f).sem [],[]⟩ e:=by
 refine Bh (fd:=Qhu) (fun g us os h=>?_) (fun ws h=>?_) t [] hc fun p hp=>absurd hp (Mx)
 ·unfold Qhu at h;split at h
  ·cases h;exact⟨_,rfl,trivial,rfl⟩
  ·split at h
   ·rename_i a ha;cases h;refine⟨_,rfl,?_,rfl⟩;show a<2^380;rw[show(2:Int)^380=2462625387274654950767440006258975862817483704404090416746768337765357610718575663213391640930307227550414249394176 by decide +kernel];exact ha
   ·cases h
  ·cases h
 ·match ws,h with
  |[.wi a,.wi b,.wi c],h =>
   have h:(a==g1X&&b==g1Y&&c==0)=true:=h;simp only[Oo,beq_iff_eq]at h;show[a,b,c]=[g1X,g1Y,0]
   rw[h.1.1,h.1.2,h.2]
theorem Xhc{p:Prop}[Decidable p](h:p):bi p=1:=if_pos h
theorem Xcr{v:Int}{p:Prop}(h:(v=1/\p)∨(v=0/\¬p))(hp:p):v=1:=h.elim (·.1) fun x=>absurd hp x.2
theorem Qzv{p:Nat}(hp:Np.isP p){a:Int}(h0:0<a)(h1:a<p):a*(a^((p:Int)-2).toNat%p)%p=1:=by
 obtain⟨x,rfl⟩:=Ow (Int.le_of_lt h0);have h2:=hp.1;have hx:¬p∣x:=fun h=>by have:=Nat.le_of_dvd (by omega) h;omega
 have hf:=Np.fermat hp hx;rw[show((p:Int)-2).toNat=p-2 by omega];have e:x*(x^(p-2)%p)%p=1:=by rw[Nat.mul_mod_mod,<- Nat.pow_succ',show(p-2).succ=p-1 by omega];exact hf
 have:((x*(x^(p-2)%p)%p:Nat):Int)=1:=by rw[e];rfl
 rw[<- this,H3,Int.natCast_mul,H3,L0]
abbrev Xhg:Sh:=.agg [.int .i64,.num,.num,.bool,.int .u64,.int .u64,.bool]
def pL(s:Int):Int:=if s=1 then 786251 else 1152921504606846223
def Qub(f:FuncId):K:={fn:=f,ext:=false,ins:=[Xhg],outs:=[oB],pre:=fun|[s,_,_,_,_,_,_]=>s=1∨s=2|_=>False,sem:=fun|[s,px,py,pz,x,y,z]=>[bi ((px=0/\py=0/\pz=0)/\inP (pL s) (Xr s) x y z)]|_=>[] }
def Qsb(f:FuncId)(ins:List Sh)(outs:List Oh):K:={fn:=f,ext:=false,ins:=ins,outs:=outs,pre:=fun _=>False,sem:=fun _=>[] }
theorem Zll(P:Program)(f:FuncId)(ins:List Sh)(outs:List Oh):(Qsb f ins outs).ok P:=fun _ _ _ _ _ hpre=>hpre.elim
def Qzs(f:FuncId):K:={fn:=f,ext:=false,ins:=[],outs:=[oB],pre:=fun _=>True,sem:=fun _=>[1] }
theorem Ztc{e:Nat->Int}{v:Int}{i j k:Nat}(h:v=(D.eqs [((.m i 0),(.lit 0)),((.m i 1),(.lit 0)),((.m i 2),(.lit 0)),((.m i 3),(.lit 0)),((.m i 4),(.lit 0)),((.m i 5),(.lit 0)),((.m j 0),(.lit 0)),((.m j 1),(.lit 0)),((.m j 2),(.lit 0)),((.m j 3),(.lit 0)),((.m j 4),(.lit 0)),((.m j 5),(.lit 0)),((.v k),(.lit 0))]).ev [] e)
  (hi:0<=e i/\e i<Qv) (hj:0<=e j/\e j<Qv):(v=1/\e i=0/\e j=0/\e k=0)∨(v=0/\¬(e i=0/\e j=0/\e k=0)):=by
 simp only[D.ev,Lq,H9,Q3,Qp,Qm,Hy,Qiw,Oo,beq_iff_eq]at h;by_cases hc:e i=0/\e j=0/\e k=0
 ·left;rw[hc.1,hc.2.1,hc.2.2]at h;simp[Q0]at h;exact⟨h,hc⟩
 ·right
  rw[if_neg (fun hh=>hc (by have:=Zz hi;have:=Zz hj;omega))]at h;exact⟨h,hc⟩
theorem Zbw{p q:Prop}[Decidable p][Decidable q](h:p):bi (p/\q)=bi q:=by
 unfold bi;by_cases hq:q
 ·rw[if_pos ⟨h,hq⟩,if_pos hq]
 ·rw[if_neg (fun hh=>hq hh.2),if_neg hq]
theorem Zd2{p q:Prop}[Decidable p][Decidable q](h:¬p):bi (p/\q)=0:=by
 unfold bi;rw[if_neg (fun hh=>h hh.1)]
def Zyo:Qn:=(.l 7 .bit (.cmp .eql (.v 0) (.lit 0))
(.split 7
(.l 8 .bit (.eqs [((.v 4),(.lit 0)),((.v 5),(.lit 0)),((.v 6),(.lit 0))])
(.split 8
(xw 1 [.v 1,.v 2,.v 3] 9 U3
(.ret [.v 9]))
(.ret [.lit 0])))
(.l 8 .bit (.cmp .eql (.v 0) (.lit 1))
(.split 8
(.l 9 .bit (.eqs [((.m 1 0),(.lit 0)),((.m 1 1),(.lit 0)),((.m 1 2),(.lit 0)),((.m 1 3),(.lit 0)),((.m 1 4),(.lit 0)),((.m 1 5),(.lit 0)),((.m 2 0),(.lit 0)),((.m 2 1),(.lit 0)),((.m 2 2),(.lit 0)),((.m 2 3),(.lit 0)),((.m 2 4),(.lit 0)),((.m 2 5),(.lit 0)),((.v 3),(.lit 0))])
(.split 9
(.l 10 .bit (.cmp .eql (.v 0) (.lit 1))
(.split 10
(xw 0 [.lit 786251,.lit 65521,.lit 12,.lit 9723,.lit 164643,.lit 0,.v 4,.v 5,.v 6] 11 U3
(.ret [.v 11]))
(.l 11 .bit (.cmp .eql (.v 0) (.lit 2))
(.split 11
(xw 0 [.lit 1152921504606846223,.lit 72057594037927889,.lit 16,.lit 613740293506734924,.lit 666621259561003659,.lit 0,.v 4,.v 5,.v 6] 12 U3
(.ret [.v 12]))
(.ret [.lit 0])))))
(.ret [.lit 0])))
(.l 9 .bit (.cmp .eql (.v 0) (.lit 2))
(.split 9
(.l 10 .bit (.eqs [((.m 1 0),(.lit 0)),((.m 1 1),(.lit 0)),((.m 1 2),(.lit 0)),((.m 1 3),(.lit 0)),((.m 1 4),(.lit 0)),((.m 1 5),(.lit 0)),((.m 2 0),(.lit 0)),((.m 2 1),(.lit 0)),((.m 2 2),(.lit 0)),((.m 2 3),(.lit 0)),((.m 2 4),(.lit 0)),((.m 2 5),(.lit 0)),((.v 3),(.lit 0))])
(.split 10
(.l 11 .bit (.cmp .eql (.v 0) (.lit 1))
(.split 11
(xw 0 [.lit 786251,.lit 65521,.lit 12,.lit 9723,.lit 164643,.lit 0,.v 4,.v 5,.v 6] 12 U3
(.ret [.v 12]))
(.l 12 .bit (.cmp .eql (.v 0) (.lit 2))
(.split 12
(xw 0 [.lit 1152921504606846223,.lit 72057594037927889,.lit 16,.lit 613740293506734924,.lit 666621259561003659,.lit 0,.v 4,.v 5,.v 6] 13 U3
(.ret [.v 13]))
(.ret [.lit 0])))))
(.ret [.lit 0])))
(.ret [.lit 0])))))))
theorem Zqk(f1 f2 f:FuncId)(i2:List Sh)(o2:List Oh)(e:Nat->Int)(hk:Qy [.int .i64,.num,.num,.bit,.int .u64,.int .u64,.bit] [e 0,e 1,e 2,e 3,e 4,e 5,e 6])(hp:(Qub f).pre [e 0,e 1,e 2,e 3,e 4,e 5,e 6]):Zyo.Xij [Qyx f1,Qsb f2 i2 o2] ⟨fun ys=>ys=(Qub f).sem [e 0,e 1,e 2,e 3,e 4,e 5,e 6],[]⟩ e:=by
 have hp:e 0=1∨e 0=2:=hp;obtain⟨_,u1,u2,_⟩:=hk;simp only[KK.has]at u1 u2;have ok1:pOk 786251:=⟨by decide,by decide⟩
 have ok2:pOk 1152921504606846223:=⟨by decide,by decide⟩
 simp only[Zyo,Qyx,Qsb,Qub,Qn.Xij,xw,xws,Nat.reduceAdd,Oy,Oz,List.map,Qp,Qm,Q3,D.ev,O1,O2];intro a7 _;have b7:=Zi a7;refine⟨fun h=>by omega,fun h=>?_⟩;intro a8 _;have b8:=Zi a8;refine⟨fun h8=>?_,fun h8=>?_⟩
 ·have e0:e 0=1:=by omega
  intro a9 _;have b9:=Ztc a9 u1 u2;refine⟨fun h9=>?_,fun h9=>?_⟩
  ·rw[Zbw (by omega)];intro a10 _;have b10:=Zi a10;refine⟨fun h10=>⟨ok1,fun a11 _=>?_⟩,fun h10=>by omega⟩;rw[a11,e0];rfl
  ·rw[Zd2 (by omega)]
 ·have e0:e 0=2:=by omega
  intro a9 _;have b9:=Zi a9;refine⟨fun h9=>?_,fun h9=>by omega⟩;intro a10 _;have b10:=Ztc a10 u1 u2;refine⟨fun h10=>?_,fun h10=>?_⟩
  ·rw[Zbw (by omega)];intro a11 _;have b11:=Zi a11;refine⟨fun h11=>by omega,fun h11=>?_⟩;intro a12 _;have b12:=Zi a12;refine⟨fun h12=>⟨ok2,fun a13 _=>?_⟩,fun h12=>by omega⟩;rw[a13,e0];rfl
  ·rw[Zd2 (by omega)]
theorem Xbm:inP 786251 65521 9723 164643 0:=by decide +kernel
theorem Zee:inP (pL 1) (Xr 1) 9723 164643 0:=by
 rw[show pL 1=786251 from rfl,show Xr 1=65521 from rfl];exact Xbm
theorem Zrp:[bi (((0:Int)=0/\(0:Int)=0/\(0:Int)=0)/\inP (pL 1) (Xr 1) 9723 164643 0)].getD 0 0=1:=by
 rw[O1];exact Xhc ⟨⟨rfl,rfl,rfl⟩,Zee⟩
theorem Zup:(Qdm 0).sem [1,2]=[32761,0]:=by
 obtain⟨q1,q2⟩:=Zd8 (n:=65521) (a:=2) (y:=32761) (by decide) (by decide);simp only[Qdm];rw[if_pos (show Y5 1/\(2:Int)<Xr 1 by decide),show Xr 1=65521 from rfl,q1,if_pos q2]
def Zlm:Qn:=(xw 0 [.lit 1] 0 qsa
(xw 4 [.lit 65520] 2 Q7
(xw 4 [.lit 2] 3 Q7
(xw 1 [.lit 1,.v 2,.v 3] 4 qsa
(xw 4 [.lit 2] 6 Q7
(xw 2 [.lit 1,.v 6] 7 qsa
(xw 4 [.lit 65521] 57 Q7
(.l 105 .bit (.eqs [((.m 0 0),(.m 57 0)),((.m 0 1),(.m 57 1)),((.m 0 2),(.m 57 2)),((.m 0 3),(.m 57 3)),((.m 0 4),(.m 57 4)),((.m 0 5),(.m 57 5))])
(.split 105
(.l 249 .bit (.cmp .eql (.v 1) (.lit 0))
(.split 249
(xw 4 [.lit 1] 441 Q7
(.l 489 .bit (.eqs [((.m 4 0),(.m 441 0)),((.m 4 1),(.m 441 1)),((.m 4 2),(.m 441 2)),((.m 4 3),(.m 441 3)),((.m 4 4),(.m 441 4)),((.m 4 5),(.m 441 5))])
(.split 489
(.l 681 .bit (.cmp .eql (.v 5) (.lit 0))
(.split 681
(xw 4 [.lit 32761] 873 Q7
(.l 921 .bit (.eqs [((.m 7 0),(.m 873 0)),((.m 7 1),(.m 873 1)),((.m 7 2),(.m 873 2)),((.m 7 3),(.m 873 3)),((.m 7 4),(.m 873 4)),((.m 7 5),(.m 873 5))])
(.split 921
(.l 1113 .bit (.cmp .eql (.v 8) (.lit 0))
(.split 1113
(xw 3 [.lit 1,.lit 0,.lit 0,.lit 0,.lit 9723,.lit 164643,.lit 0] 1305 U3
(.split 1305
(.ret [.lit 1])
(.ret [.lit 0])))
(.ret [.lit 0])))
(.ret [.lit 0]))))
(.ret [.lit 0])))
(.ret [.lit 0]))))
(.ret [.lit 0])))
(.ret [.lit 0]))))))))))
theorem Zir(f1 f2 f3 f4 f5 f:FuncId)(e:Nat->Int):Zlm.Xij [Qgn f1,kS2 f2 (·+ ·),Qdm f3,Qub f4,kOf f5] ⟨fun ys=>ys=[1],[]⟩ e:=by
 unfold Zlm;refine⟨trivial,fun a0 k0 a1 _=>⟨trivial,fun a2 _=>⟨trivial,fun a3 _=>⟨trivial,fun a4 k4 a5 _=>⟨trivial,fun a6 _=>⟨trivial,fun a7 k7 a8 _=>⟨trivial,fun a57 k57 a105 _=>?_⟩⟩⟩⟩⟩⟩⟩;have v0:e 0=65521:=a0;have v1:e 1=0:=a1;have v2:e 2=65520:=a2;have v3:e 3=2:=a3;have s4:Qu2 (·+ ·) [1,e 2,e 3]=[1,0]:=by rw[v2,v3];decide
 have v4:e 4=1:=by
  have:e 4=(Qu2 (·+ ·) [1,e 2,e 3]).getD 0 0:=a4;rw[this,s4];rfl
 have v5:e 5=0:=by
  have:e 5=(Qu2 (·+ ·) [1,e 2,e 3]).getD 1 0:=a5;rw[this,s4];rfl
 have v6:e 6=2:=a6;have s7:(Qdm f3).sem [1,e 6]=[32761,0]:=by rw[v6];exact Zup
 have v7:e 7=32761:=by
  have:e 7=((Qdm f3).sem [1,e 6]).getD 0 0:=a7;rw[this,s7];rfl
 have v8:e 8=0:=by
  have:e 8=((Qdm f3).sem [1,e 6]).getD 1 0:=a8;rw[this,s7];rfl
 have v57:e 57=65521:=a57;have w105:=Xcr (Qmx a105 k0 k57) (by rw[v0,v57]);refine⟨fun _=>?_,fun h=>by omega⟩;intro a249 _;have w249:=Zi a249;simp only[Qm,Qp]at w249;refine⟨fun _=>?_,fun h=>by omega⟩;refine⟨trivial,fun a441 k441 a489 _=>?_⟩;have v441:e 441=1:=a441;have w489:=Xcr (Qmx a489 k4 k441) (by rw[v4,v441]);refine⟨fun _=>?_,fun h=>by omega⟩;intro a681 _;have w681:=Zi a681;simp only[Qm,Qp]at w681;refine⟨fun _=>?_,fun h=>by omega⟩;refine⟨trivial,fun a873 k873 a921 _=>?_⟩;have v873:e 873=32761:=a873;have w921:=Xcr (Qmx a921 k7 k873) (by rw[v7,v873]);refine⟨fun _=>?_,fun h=>by omega⟩;intro a1113 _;have w1113:=Zi a1113;simp only[Qm,Qp]at w1113;refine⟨fun _=>?_,fun h=>by omega⟩;refine⟨.inl rfl,fun a1305 _=>?_⟩;have w1:e 1305=1:=a1305.trans Zrp;refine⟨fun _=>rfl,fun h=>by omega⟩
def Je(s:Int):Prop:=s=1∨s=2
def cvL(s:Int):List Int:=if s=1 then[786251,65521,12,9723,164643,0,1]else if s=2 then[1152921504606846223,72057594037927889,16,613740293506734924,666621259561003659,0,1]else[0,0,0,0,0,0,0]
abbrev Qeq:List L:=[.int .i64,.num,.num,.bool,.int .u64,.int .u64,.bool]
def Qo4(f:FuncId):K:={fn:=f,ext:=false,ins:=[iI],outs:=[.agg [.int .u64,.int .u64,.int .u64,.int .u64,.int .u64,.bool],oB],pre:=fun _=>True,sem:=fun|[s]=>cvL s|_=>[] }
def Xdn:Qn:=(.l 1 .bit (.c .eql (.v 0) (.n 1))
(.split 1
(.ret [.n 786251,.n 65521,.n 12,.n 9723,.n 164643,.n 0,.n 1])
(.l 2 .bit (.c .eql (.v 0) (.n 2))
(.split 2
(.ret [.n 1152921504606846223,.n 72057594037927889,.n 16,.n 613740293506734924,.n 666621259561003659,.n 0,.n 1])
(.ret [.n 0,.n 0,.n 0,.n 0,.n 0,.n 0,.n 0])))))
theorem Zu0(f:FuncId)(e:Nat->Int):Xdn.Xij [] ⟨fun ys=>ys=(Qo4 f).sem [e 0],[]⟩ e:=by
 show Xdn.Xij _ ⟨fun ys=>ys=cvL (e 0),[]⟩ e;intro a1 _;have b1:=Zi a1;refine⟨fun h=>?_,fun h=>?_⟩
 ·show _=cvL (e 0);unfold cvL;rw[if_pos (show e 0=1 from Zc b1 h)];rfl
 ·intro a2 _;have b2:=Zi a2;have n1:¬e 0=1:=Xf b1 h;refine⟨fun h=>?_,fun h=>?_⟩
  ·show _=cvL (e 0);unfold cvL;rw[if_neg n1,if_pos (show e 0=2 from Zc b2 h)];rfl
  ·show _=cvL (e 0);unfold cvL;rw[if_neg n1,if_neg (show ¬e 0=2 from Xf b2 h)];rfl
theorem Qnd(s:Int):pOk (pL s):=by
 unfold pL;split <;> exact⟨by decide,by decide⟩
theorem Qaa{s:Int}(h:Je s):cvL s=[pL s,Xr s,if s=1 then 12 else 16,if s=1 then 9723 else 613740293506734924,if s=1 then 164643 else 666621259561003659,0,1]:=by
 rcases h with rfl|rfl <;> rfl
theorem Xf6{s:Int}(h:¬Je s):cvL s=[0,0,0,0,0,0,0]:=by
 unfold cvL;rw[if_neg (fun h1=>h (.inl h1)),if_neg (fun h1=>h (.inr h1))]
open Classical in
theorem Xdr(s:Int):(cvL s).getD 6 0=bj (Je s):=by
 by_cases h:Je s
 ·rw[Qaa h,Qbp h];rfl
 ·rw[Xf6 h,Jf h];rfl
theorem Qp0{p:Prop}[Decidable p]:bi p=bj p:=by
 by_cases h:p
 ·rw[Qbp h];exact if_pos h
 ·rw[Jf h];exact if_neg h
noncomputable def Zes(f:FuncId):K:={fn:=f,ext:=false,ins:=[iI,iPt],outs:=[oB],pre:=fun _=>True,sem:=fun|[s,x,y,z]=>[bj (Je s/\inP (pL s) (Xr s) x y z)]|_=>[] }
def Zwd:Qn:=(xw 0 [.v 0] 4 qia
(.split 10
(xw 1 [.v 4,.v 5,.v 6,.v 7,.v 8,.v 9,.v 1,.v 2,.v 3] 11 U3
(.ret [.v 11]))
(.ret [.n 0])))
theorem Zjx(f1 f2 f:FuncId)(e:Nat->Int):Zwd.Xij [Qo4 f1,Qyx f2] ⟨fun ys=>ys=(Zes f).sem [e 0,e 1,e 2,e 3],[]⟩ e:=by
 show Zwd.Xij _ ⟨fun ys=>ys=[bj (Je (e 0)/\inP (pL (e 0)) (Xr (e 0)) (e 1) (e 2) (e 3))],[]⟩ e;refine⟨trivial,fun a4 _ a5 _ a6 _ a7 _ a8 _ a9 _ a10 _=>?_⟩;have v10:e 10=bj (Je (e 0)):=(show e 10=(cvL (e 0)).getD 6 0 from a10).trans (Xdr _);refine⟨fun h=>?_,fun h=>?_⟩
 ·have hl:=Vl v10 h;have v4:e 4=pL (e 0):=by rw[show e 4=(cvL (e 0)).getD 0 0 from a4,Qaa hl];rfl
  have v5:e 5=Xr (e 0):=by rw[show e 5=(cvL (e 0)).getD 1 0 from a5,Qaa hl];rfl
  refine⟨(by show pOk (e 4);rw[v4];exact Qnd _),fun a11 _=>?_⟩;have v11:e 11=bi (inP (e 4) (e 5) (e 1) (e 2) (e 3)):=a11;show[e 11]=_;rw[v11,Qp0,v4,v5];exact congrArg (fun x=>[x]) (W8 ⟨fun h=>⟨hl,h⟩,fun h=>h.2⟩)
 ·show[(0:Int)]=_;rw[Jf fun hh=>Qak v10 h hh.1]
noncomputable def Qb9(f:FuncId):K:={fn:=f,ext:=false,ins:=[iI,iPt,iU],outs:=[.agg [.int .u64,.int .u64,.bool],oI],pre:=fun|[s,x,y,z,_]=>Je s/\Bp (pL s) x y z|_=>False,sem:=fun|[s,x,y,z,n]=>(Zs (pL s) ⟨x,y,z⟩ 64 n.toNat).l++[0]|_=>[] }
theorem Qws{p x y z:Int}(hp:0<p)(h:Bp p x y z):x<p/\y<p:=by
 unfold Bp at h;split at h <;> omega
def Zkn:Qn:=(xw 0 [.v 0] 5 qia
(.l 12 .bit (.not (.v 11))
(.split 12
(.ret [.n 0,.n 0,.n 0,.n 2])
(xw 1 [.v 5,.v 6,.v 7,.v 8,.v 9,.v 10,.v 1,.v 2,.v 3] 13 U3
(.l 14 .bit (.not (.v 13))
(.split 14
(.ret [.n 0,.n 0,.n 0,.n 5])
(xw 2 [.v 5,.v 6,.v 7,.v 8,.v 9,.v 10,.v 1,.v 2,.v 3,.v 4] 15 qra
(.ret [.v 15,.v 16,.v 17,.n 0]))))))))
theorem Zg0(f1 f2 f3 f:FuncId)(e:Nat->Int)(hp:(Qb9 f).pre [e 0,e 1,e 2,e 3,e 4]):Zkn.Xij [Qo4 f1,Qo0 f2,B8 f3] ⟨fun ys=>ys=(Qb9 f).sem [e 0,e 1,e 2,e 3,e 4],[]⟩ e:=by
 obtain⟨hl,ho⟩:Je (e 0)/\Bp (pL (e 0)) (e 1) (e 2) (e 3):=hp;have hok:=Qnd (e 0);show Zkn.Xij _ ⟨fun ys=>ys=(Zs (pL (e 0)) ⟨e 1,e 2,e 3⟩ 64 (e 4).toNat).l++[0],[]⟩ e;refine⟨trivial,fun a5 _ a6 _ a7 _ a8 _ a9 _ a10 _ a11 _ a12 _=>?_⟩;have v5:e 5=pL (e 0):=by rw[show e 5=(cvL (e 0)).getD 0 0 from a5,Qaa hl];rfl
 have v11:e 11=1:=by rw[show e 11=(cvL (e 0)).getD 6 0 from a11,Qaa hl];rfl
 have b12:=Z6 a12;simp only[Qm]at b12;refine⟨fun h=>by omega,fun _=>⟨(by show pOk (e 5);rw[v5];exact hok),fun a13 _ a14 _=>?_⟩⟩;have v13:e 13=bi (Bp (e 5) (e 1) (e 2) (e 3)):=a13;rw[v5,Qp0,Qbp ho]at v13;have b14:=Z6 a14;simp only[Qm]at b14;have hlt:=Qws (show 0<pL (e 0) by have:=hok.1;omega) ho;refine⟨fun h=>by omega,fun _=>⟨(by show pOk (e 5)/\e 1<e 5/\e 2<e 5;rw[v5];exact⟨hok,hlt.1,hlt.2⟩),fun a15 _ a16 _ a17 _=>?_⟩⟩;have hs:[e 15,e 16,e 17]=(Zs (e 5) ⟨e 1,e 2,e 3⟩ 64 (e 4).toNat).l:=by
  rw[show e 15=_ from a15,show e 16=_ from a16,show e 17=_ from a17];rfl
 rw[v5]at hs;show[e 15,e 16,e 17,0]=_;rw[<- hs];rfl
noncomputable def Qoc(f:FuncId):K:={fn:=f,ext:=false,ins:=[iI,iPt,iPt],outs:=[.agg [.int .u64,.int .u64,.bool],oI],pre:=fun|[s,x,y,z,x',y',z']=>Je s/\Bp (pL s) x y z/\Bp (pL s) x' y' z'|_=>False,sem:=fun|[s,x,y,z,x',y',z']=>(Xv (pL s) ⟨x,y,z⟩ ⟨x',y',z'⟩).l++[0]|_=>[] }
def Znb:Qn:=(xw 0 [.v 0] 7 qia
(.l 14 .bit (.not (.v 13))
(.split 14
(.ret [.n 0,.n 0,.n 0,.n 2])
(xw 1 [.v 7,.v 8,.v 9,.v 10,.v 11,.v 12,.v 1,.v 2,.v 3] 15 U3
(.l 16 .bit (.not (.v 15))
(.split 16
(.ret [.n 0,.n 0,.n 0,.n 5])
(xw 1 [.v 7,.v 8,.v 9,.v 10,.v 11,.v 12,.v 4,.v 5,.v 6] 17 U3
(.l 18 .bit (.not (.v 17))
(.split 18
(.ret [.n 0,.n 0,.n 0,.n 5])
(xw 2 [.v 7,.v 8,.v 9,.v 10,.v 11,.v 12,.v 1,.v 2,.v 3,.v 4,.v 5,.v 6] 19 qra
(.ret [.v 19,.v 20,.v 21,.n 0])))))))))))
theorem Zgq(f1 f2 f3 f:FuncId)(e:Nat->Int)(hp:(Qoc f).pre [e 0,e 1,e 2,e 3,e 4,e 5,e 6]):Znb.Xij [Qo4 f1,Qo0 f2,Qlq f3] ⟨fun ys=>ys=(Qoc f).sem [e 0,e 1,e 2,e 3,e 4,e 5,e 6],[]⟩ e:=by
 obtain⟨hl,ho,ho'⟩:Je (e 0)/\Bp (pL (e 0)) (e 1) (e 2) (e 3)/\Bp (pL (e 0)) (e 4) (e 5) (e 6):=hp;have hok:=Qnd (e 0);show Znb.Xij _ ⟨fun ys=>ys=(Xv (pL (e 0)) ⟨e 1,e 2,e 3⟩ ⟨e 4,e 5,e 6⟩).l++[0],[]⟩ e;refine⟨trivial,fun a7 _ a8 _ a9 _ a10 _ a11 _ a12 _ a13 _ a14 _=>?_⟩;have v7:e 7=pL (e 0):=by rw[show e 7=(cvL (e 0)).getD 0 0 from a7,Qaa hl];rfl
 have v13:e 13=1:=by rw[show e 13=(cvL (e 0)).getD 6 0 from a13,Qaa hl];rfl
 have b14:=Z6 a14;simp only[Qm]at b14;refine⟨fun h=>by omega,fun _=>⟨(by show pOk (e 7);rw[v7];exact hok),fun a15 _ a16 _=>?_⟩⟩;have v15:e 15=bi (Bp (e 7) (e 1) (e 2) (e 3)):=a15;rw[v7,Qp0,Qbp ho]at v15;have b16:=Z6 a16;simp only[Qm]at b16;refine⟨fun h=>by omega,fun _=>⟨(by show pOk (e 7);rw[v7];exact hok),fun a17 _ a18 _=>?_⟩⟩;have v17:e 17=bi (Bp (e 7) (e 4) (e 5) (e 6)):=a17;rw[v7,Qp0,Qbp ho']at v17;have b18:=Z6 a18;simp only[Qm]at b18;have p0:0<pL (e 0):=by have:=hok.1;omega
 have hlt:=Qws p0 ho;have hlt':=Qws p0 ho';refine⟨fun h=>by omega,fun _=>⟨(by show pOk (e 7)/\e 1<e 7/\e 2<e 7/\e 4<e 7/\e 5<e 7;rw[v7];exact⟨hok,hlt.1,hlt.2,hlt'.1,hlt'.2⟩),fun a19 _ a20 _ a21 _=>?_⟩⟩;have hs:[e 19,e 20,e 21]=(Xv (e 7) ⟨e 1,e 2,e 3⟩ ⟨e 4,e 5,e 6⟩).l:=by
  rw[show e 19=_ from a19,show e 20=_ from a20,show e 21=_ from a21];rfl
 rw[v7]at hs;show[e 19,e 20,e 21,0]=_;rw[<- hs];rfl
def Qrj(f:FuncId):K:={fn:=f,ext:=false,ins:=[iI],outs:=[.agg [.int .u64,.int .u64,.bool],oI],pre:=fun|[s]=>Je s|_=>False,sem:=fun|[s]=>[if s=1 then 9723 else 613740293506734924,if s=1 then 164643 else 666621259561003659,0,0]|_=>[] }
def Xbc:Qn:=(xw 0 [.v 0] 1 qia
(.l 8 .bit (.not (.v 7))
(.split 8
(.ret [.n 0,.n 0,.n 0,.n 2])
(.ret [.v 4,.v 5,.v 6,.n 0]))))
theorem Zij(f1 f:FuncId)(e:Nat->Int)(hp:(Qrj f).pre [e 0]):Xbc.Xij [Qo4 f1] ⟨fun ys=>ys=(Qrj f).sem [e 0],[]⟩ e:=by
 have hl:Je (e 0):=hp;refine⟨trivial,fun a1 _ a2 _ a3 _ a4 _ a5 _ a6 _ a7 _ a8 _=>?_⟩;have v4:e 4=if e 0=1 then 9723 else 613740293506734924:=by rw[show e 4=(cvL (e 0)).getD 3 0 from a4,Qaa hl];rfl
 have v5:e 5=if e 0=1 then 164643 else 666621259561003659:=by rw[show e 5=(cvL (e 0)).getD 4 0 from a5,Qaa hl];rfl
 have v6:e 6=0:=by rw[show e 6=(cvL (e 0)).getD 5 0 from a6,Qaa hl];rfl
 have v7:e 7=1:=by rw[show e 7=(cvL (e 0)).getD 6 0 from a7,Qaa hl];rfl
 have b8:=Z6 a8;simp only[Qm]at b8;refine⟨fun h=>by omega,fun _=>?_⟩;show[e 4,e 5,e 6,0]=[if e 0=1 then 9723 else 613740293506734924,if e 0=1 then 164643 else 666621259561003659,0,0]
 rw[v4,v5,v6]
def Y4(s px py pz x y z:Int):Prop:=(s=0/\(x=0/\y=0/\z=0)/\inG px py pz)∨(Je s/\(px=0/\py=0/\pz=0)/\inP (pL s) (Xr s) x y z)
noncomputable def Qbt(f:FuncId):K:={fn:=f,ext:=false,ins:=[.agg Qeq],outs:=[oB],pre:=fun _=>True,sem:=fun|[s,px,py,pz,x,y,z]=>[bj (Y4 s px py pz x y z)]|_=>[] }
theorem Zwe{T:List K}{e:Nat->Int}{v:Int}{l:List (A×A)}(h:v=(D.eqs l).ev T e):(v=1/\∀p∈l,p.1.ev e=p.2.ev e)∨(v=0/\¬ ∀p∈l,p.1.ev e=p.2.ev e):=by
 have h:v=X6 (l.all fun p=>p.1.ev e==p.2.ev e):=h;by_cases hc:∀p∈l,p.1.ev e=p.2.ev e
 ·refine .inl ⟨?_,hc⟩;rw[h,show(l.all fun p=>p.1.ev e==p.2.ev e)=true from Mp.2 fun p hp=>beq_iff_eq.2 (hc p hp)];rfl
 ·refine .inr ⟨?_,hc⟩;have:(l.all fun p=>p.1.ev e==p.2.ev e)=false:=by
   cases hb:(l.all fun p=>p.1.ev e==p.2.ev e)with
   |false=>rfl
   |true=>exact absurd (fun p hp=>beq_iff_eq.1 (Mp.1 hb p hp)) hc
  rw[h,this];rfl
theorem Xf0{T:List K}{e:Nat->Int}{v:Int}{i j k:Nat}(h:v=(D.eqs [(.v i,.lit 0),(.v j,.lit 0),(.v k,.lit 0)]).ev T e):(v=1/\(e i=0/\e j=0/\e k=0))∨(v=0/\¬(e i=0/\e j=0/\e k=0)):=by
 have hi:(∀p∈[(A.v i,A.lit 0),(.v j,.lit 0),(.v k,.lit 0)],p.1.ev e=p.2.ev e)↔(e i=0/\e j=0/\e k=0):=by
  constructor
  ·intro h;exact⟨h _ (Mj ..),h _ (Md _ (Mj ..)),h _ (Md _ (Md _ (Mj ..)))⟩
  ·rintro ⟨h1,h2,h3⟩ p hp
   simp only[O6,Mx,or_false]at hp;rcases hp with rfl|rfl|rfl
   ·exact h1
   ·exact h2
   ·exact h3
 rcases Zwe h with⟨h1,h2⟩|⟨h1,h2⟩
 ·exact .inl ⟨h1,hi.1 h2⟩
 ·exact .inr ⟨h1,fun hh=>h2 (hi.2 hh)⟩
def Ze3:Qn:=(.l 7 .bit (.c .eql (.v 0) (.n 0))
(.split 7
(.l 8 .bit (.eqs [((.v 4),(.n 0)),((.v 5),(.n 0)),((.v 6),(.n 0))])
(.split 8
(xw 0 [.v 1,.v 2,.v 3] 9 U3
(.ret [.v 9]))
(.ret [.n 0])))
(.l 8 .bit (.c .eql (.v 0) (.n 1))
(.split 8
(.l 9 .bit (.eqs [((.m 1 0),(.n 0)),((.m 1 1),(.n 0)),((.m 1 2),(.n 0)),((.m 1 3),(.n 0)),((.m 1 4),(.n 0)),((.m 1 5),(.n 0)),((.m 2 0),(.n 0)),((.m 2 1),(.n 0)),((.m 2 2),(.n 0)),((.m 2 3),(.n 0)),((.m 2 4),(.n 0)),((.m 2 5),(.n 0)),((.v 3),(.n 0))])
(.split 9
(xw 1 [.v 0,.v 4,.v 5,.v 6] 10 U3
(.ret [.v 10]))
(.ret [.n 0])))
(.l 9 .bit (.c .eql (.v 0) (.n 2))
(.split 9
(.l 10 .bit (.eqs [((.m 1 0),(.n 0)),((.m 1 1),(.n 0)),((.m 1 2),(.n 0)),((.m 1 3),(.n 0)),((.m 1 4),(.n 0)),((.m 1 5),(.n 0)),((.m 2 0),(.n 0)),((.m 2 1),(.n 0)),((.m 2 2),(.n 0)),((.m 2 3),(.n 0)),((.m 2 4),(.n 0)),((.m 2 5),(.n 0)),((.v 3),(.n 0))])
(.split 10
(xw 1 [.v 0,.v 4,.v 5,.v 6] 11 U3
(.ret [.v 11]))
(.ret [.n 0])))
(.ret [.n 0])))))))
theorem Qyp(f1 f2 f:FuncId)(e:Nat->Int)(hk:Qy [.int .i64,.num,.num,.bit,.int .u64,.int .u64,.bit] [e 0,e 1,e 2,e 3,e 4,e 5,e 6]):Ze3.Xij [Zk1 f1,Zes f2] ⟨fun ys=>ys=(Qbt f).sem [e 0,e 1,e 2,e 3,e 4,e 5,e 6],[]⟩ e:=by
 obtain⟨_,u1,u2,_⟩:=hk;simp only[KK.has]at u1 u2;show Ze3.Xij _ ⟨fun ys=>ys=[bj (Y4 (e 0) (e 1) (e 2) (e 3) (e 4) (e 5) (e 6))],[]⟩ e;intro a7 _;have b7:=Zi a7;simp only[Qm,Qp]at b7;refine⟨fun h7=>?_,fun h7=>?_⟩
 ·have e0:e 0=0:=by omega
  intro a8 _;have b8:=Xf0 a8;refine⟨fun h8=>⟨trivial,fun a9 _=>?_⟩,fun h8=>?_⟩
  ·have v9:e 9=bj (inG (e 1) (e 2) (e 3)):=a9;show[e 9]=_;rw[v9];exact congrArg (fun x=>[x]) (W8 ⟨fun h=>.inl ⟨e0,Zc b8 h8,h⟩,fun h=>by
    rcases h with h|h
    ·exact h.2.2
    ·rcases h.1 with h1|h1 <;> (rw[e0]at h1;exact absurd h1 (by decide))⟩)
  ·show[(0:Int)]=_;rw[Jf];intro h;rcases h with h|h
   ·exact Xf b8 h8 h.2.1
   ·rcases h.1 with h1|h1 <;> (rw[e0]at h1;exact absurd h1 (by decide))
 ·have n0:¬e 0=0:=by omega
  intro a8 _;have b8:=Zi a8;simp only[Qm,Qp]at b8;have key:∀(v w:Int),Je (e 0)->v=bj (Je (e 0)/\inP (pL (e 0)) (Xr (e 0)) (e 4) (e 5) (e 6))->(e 1=0/\e 2=0/\e 3=0)->[v]=[bj (Y4 (e 0) (e 1) (e 2) (e 3) (e 4) (e 5) (e 6))]:=fun v w hl hv hz=>by
   rw[hv];exact congrArg (fun x=>[x]) (W8 ⟨fun h=>.inr ⟨hl,hz,h.2⟩,fun h=>by
    rcases h with h|h
    ·exact absurd h.1 n0
    ·exact⟨hl,h.2.2⟩⟩)
  have none:¬(e 1=0/\e 2=0/\e 3=0)->[(0:Int)]=[bj (Y4 (e 0) (e 1) (e 2) (e 3) (e 4) (e 5) (e 6))]:=fun hz=>by
   rw[Jf];intro h;rcases h with h|h
   ·exact n0 h.1
   ·exact hz h.2.1
  refine⟨fun h8=>?_,fun h8=>?_⟩
  ·intro a9 _;have b9:=Ztc a9 u1 u2;refine⟨fun h9=>⟨trivial,fun a10 _=>key _ 0 (.inl (by omega)) a10 (by omega)⟩,fun h9=>none (by omega)⟩
  ·intro a9 _;have b9:=Zi a9;simp only[Qm,Qp]at b9;refine⟨fun h9=>?_,fun h9=>?_⟩
   ·intro a10 _;have b10:=Ztc a10 u1 u2;refine⟨fun h10=>⟨trivial,fun a11 _=>key _ 0 (.inr (by omega)) a11 (by omega)⟩,fun h10=>none (by omega)⟩
   ·show[(0:Int)]=_;rw[Jf];intro h;rcases h with h|h
    ·exact n0 h.1
    ·rcases h.1 with h1|h1 <;> omega
noncomputable def Qrb(f:FuncId):K:={fn:=f,ext:=false,ins:=[iI,iPt],outs:=[.agg [.int .u64,.int .u64,.bool],oI],pre:=fun|[s,x,y,z]=>Je s/\Bp (pL s) x y z|_=>False,sem:=fun|[s,x,y,z]=>[x,(-y)%pL s,z,0]|_=>[] }
theorem Yh{s:Int}(h:Je s):prP (pL s):=by rcases h with rfl|rfl;exact .inl rfl;exact .inr rfl
def Zj7:Qn:=(xw 0 [.v 0] 4 qia
(.l 11 .bit (.not (.v 10))
(.split 11
(.ret [.n 0,.n 0,.n 0,.n 2])
(xw 1 [.v 4,.v 5,.v 6,.v 7,.v 8,.v 9,.v 1,.v 2,.v 3] 12 U3
(.l 13 .bit (.not (.v 12))
(.split 13
(.ret [.n 0,.n 0,.n 0,.n 5])
(xw 2 [.v 4,.v 5,.v 6,.v 7,.v 8,.v 9,.n 0,.v 2] 14 qna
(.ret [.v 1,.v 14,.v 3,.n 0]))))))))
theorem Zfs(f1 f2 f3 f:FuncId)(e:Nat->Int)(hk:Qy [.int .i64,.int .u64,.int .u64,.bit] [e 0,e 1,e 2,e 3])(hp:(Qrb f).pre [e 0,e 1,e 2,e 3]):Zj7.Xij [Qo4 f1,Qo0 f2,Qew f3] ⟨fun ys=>ys=(Qrb f).sem [e 0,e 1,e 2,e 3],[]⟩ e:=by
 obtain⟨hl,ho⟩:Je (e 0)/\Bp (pL (e 0)) (e 1) (e 2) (e 3):=hp;have hok:=Qnd (e 0);show Zj7.Xij _ ⟨fun ys=>ys=[e 1,(-e 2)%pL (e 0),e 3,0],[]⟩ e;refine⟨trivial,fun a4 _ a5 _ a6 _ a7 _ a8 _ a9 _ a10 _ a11 _=>?_⟩;have v4:e 4=pL (e 0):=by rw[show e 4=(cvL (e 0)).getD 0 0 from a4,Qaa hl];rfl
 have v10:e 10=1:=by rw[show e 10=(cvL (e 0)).getD 6 0 from a10,Qaa hl];rfl
 have b11:=Z6 a11;simp only[Qm]at b11;refine⟨fun h=>by omega,fun _=>⟨(by show pOk (e 4);rw[v4];exact hok),fun a12 _ a13 _=>?_⟩⟩;have v12:e 12=bi (Bp (e 4) (e 1) (e 2) (e 3)):=a12;rw[v4,Qp0,Qbp ho]at v12;have b13:=Z6 a13;simp only[Qm]at b13;have hlt:=Qws (show 0<pL (e 0) by have:=hok.1;omega) ho;refine⟨fun h=>by omega,fun _=>⟨(by show pOk (e 4)/\(0:Int)<e 4/\e 2<e 4;rw[v4];exact⟨hok,by have:=hok.1;omega,hlt.2⟩),fun a14 _=>?_⟩⟩;show[e 1,e 14,e 3,0]=_;rw[show e 14=(0-e 2)%e 4 from a14,v4,Hu]
end Go.Sx
namespace Go.Sx
open Go Go.RowKit
set_option maxRecDepth 100000
open Classical in
noncomputable def Vs(s px py pz x y z n:Int):List Int :=
 if ¬Y4 s px py pz x y z then[0,0,0,0,0,0,0,5]
 else if ¬n<Xr s then[0,0,0,0,0,0,0,2]
 else if s=0 then[0]++Vg (Xd R1 (rsV px py pz) 384 n.toNat)++[0,0,0,0]
 else[s,0,0,0]++(Zs (pL s) ⟨x,y,z⟩ 64 n.toNat).l++[0]
noncomputable def Zb2(f:FuncId):K:={fn:=f,ext:=false,ins:=[.agg Qeq,iN],outs:=[.agg Qeq,oI],pre:=fun _=>True,sem:=fun|[s,px,py,pz,x,y,z,n]=>Vs s px py pz x y z n|_=>[] }
theorem Qqt{s px py pz x y z:Int}(h:Y4 s px py pz x y z):Y5 s:=by
 rcases h with h|h
 ·exact⟨by omega,by omega⟩
 ·rcases h.1 with h|h <;> exact⟨by omega,by omega⟩
theorem Xf1{n:Int}(h0:0<=n)(h1:n<18446744073709551616):Q0 n 0=n:=by rw[Qp8];exact Ox h0 h1
theorem Qnb{s:Int}(h:Je s):Xr s<18446744073709551616:=by
 rcases h with rfl|rfl <;> decide
theorem Vv(s:Int):0<Xr s:=by
 unfold Xr;split
 ·decide
 ·split <;> decide
def Zyl:Qn:=(xw 0 [.v 0,.v 1,.v 2,.v 3,.v 4,.v 5,.v 6] 8 U3
(.l 9 .bit (.not (.v 8))
(.split 9
(.ret [.n 0,.n 0,.n 0,.n 0,.n 0,.n 0,.n 0,.n 5])
(.l 538 .bit (.c .neq (.v 0) (.v 0))
(.split 538
(.ret [.n 0,.n 0,.n 0,.n 0,.n 0,.n 0,.n 0,.n 2])
(xw 1 [.v 0] 874 Q7
(xw 2 [.v 7,.v 874] 922 qoa
(.l 970 .bit (.c .geq (.v 922) (.n 0))
(.split 970
(.ret [.n 0,.n 0,.n 0,.n 0,.n 0,.n 0,.n 0,.n 2])
(.l 1066 .bit (.c .eql (.v 0) (.n 0))
(.split 1066
(xw 3 [.v 1,.v 2,.v 3,.v 7] 1067 qla
(.ret [.v 0,.v 1067,.v 1068,.v 1069,.n 0,.n 0,.n 0,.n 0]))
(xw 4 [.v 0,.v 4,.v 5,.v 6,.m 7 0] 1067 qqa
(.ret [.v 0,.n 0,.n 0,.n 0,.v 1067,.v 1068,.v 1069,.n 0])))))))))))))
theorem Zko(f1 f2 f3 f4 f5 f:FuncId)(e:Nat->Int)(hk:Qy [.int .i64,.num,.num,.bit,.int .u64,.int .u64,.bit,.num] [e 0,e 1,e 2,e 3,e 4,e 5,e 6,e 7]):Zyl.Xij [Qbt f1,Wl f2,Yj f3,Qc9 f4,Qb9 f5] ⟨fun ys=>ys=(Zb2 f).sem [e 0,e 1,e 2,e 3,e 4,e 5,e 6,e 7],[]⟩ e:=by
 have h7:0<=e 7:=hk.2.2.2.2.2.2.2.1.1;show Zyl.Xij _ ⟨fun ys=>ys=Vs (e 0) (e 1) (e 2) (e 3) (e 4) (e 5) (e 6) (e 7),[]⟩ e;unfold Vs;refine⟨trivial,fun a8 _ a9 _=>?_⟩;have v8:e 8=bj (Y4 (e 0) (e 1) (e 2) (e 3) (e 4) (e 5) (e 6)):=a8;have b9:=Z6 a9;simp only[Qm]at b9;refine⟨fun h=>?_,fun h=>?_⟩
 ·rw[if_pos (Qak v8 (by clear v8;omega))];rfl
 have hok:Y4 (e 0) (e 1) (e 2) (e 3) (e 4) (e 5) (e 6):=Vl v8 (by clear v8;omega);have hs:=Qqt hok;rw[if_neg (fun hc=>hc hok)];intro a538 _;have b538:=Qaj a538;simp only[Qm]at b538;refine⟨fun h=>by
  rcases b538 with⟨_,k⟩|⟨k,_⟩
  ·exact absurd trivial k
  ·exact absurd k h,fun _=>⟨hs,fun a874 _=>⟨trivial,fun a922 _ a970 _=>?_⟩⟩⟩
 have v874:e 874=Xr (e 0):=a874;have v922:e 922<0↔e 7<e 874:=Ug a922;have b970:=Bt a970;simp only[Qm,Qp]at b970;refine⟨fun h=>?_,fun h=>?_⟩
 ·have hn:¬e 7<Xr (e 0):=by rw[<- v874,<- v922];omega
  rw[if_pos hn];rfl
 have hn:e 7<Xr (e 0):=by rw[<- v874,<- v922];omega
 rw[if_neg (fun hc=>hc hn)];intro a1066 _;have b1066:=Zi a1066;simp only[Qm,Qp]at b1066;refine⟨fun h=>?_,fun h=>?_⟩
 ·have e0:e 0=0:=by omega
  have hg:onV (e 1) (e 2) (e 3):=by
   rcases hok with hh|hh
   ·exact hh.2.2.1
   ·rcases hh.1 with h1|h1 <;> omega
  refine⟨hg,fun a1 _ a2 _ a3 _ a4 _=>?_⟩;have hr:[e 1067,e 1068,e 1069,e 1070]=Vg (Xd R1 (rsV (e 1) (e 2) (e 3)) 384 (e 7).toNat)++[0]:=by
   rw[show e 1067=_ from a1,show e 1068=_ from a2,show e 1069=_ from a3,show e 1070=_ from a4];rfl
  rw[if_pos e0];show[e 0,e 1067,e 1068,e 1069,0,0,0,0]=_;have hl:[e 1067,e 1068,e 1069]=Vg (Xd R1 (rsV (e 1) (e 2) (e 3)) 384 (e 7).toNat):=by
   unfold Vg at hr ⊢;injection hr with x1 hr;injection hr with x2 hr;injection hr with x3 hr;rw[x1,x2,x3]
  rw[<- hl,e0];rfl
 ·have n0:¬e 0=0:=by omega
  obtain⟨hl,hin⟩:Je (e 0)/\inP (pL (e 0)) (Xr (e 0)) (e 4) (e 5) (e 6):=by
   rcases hok with hh|hh
   ·exact absurd hh.1 n0
   ·exact⟨hh.1,hh.2.2⟩
  refine⟨⟨hl,hin.1⟩,fun a1 _ a2 _ a3 _ a4 _=>?_⟩;have hr:[e 1067,e 1068,e 1069,e 1070]=(Zs (pL (e 0)) ⟨e 4,e 5,e 6⟩ 64 (Q0 (e 7) 0).toNat).l++[0]:=by
   rw[show e 1067=_ from a1,show e 1068=_ from a2,show e 1069=_ from a3,show e 1070=_ from a4];rfl
  rw[Xf1 h7 (by have:=Qnb hl;omega)]at hr;rw[if_neg n0];show[e 0,0,0,0,e 1067,e 1068,e 1069,0]=_;have hl2:[e 1067,e 1068,e 1069]=(Zs (pL (e 0)) ⟨e 4,e 5,e 6⟩ 64 (e 7).toNat).l:=by
   unfold Pt.l at hr ⊢;injection hr with x1 hr;injection hr with x2 hr;injection hr with x3 hr;rw[x1,x2,x3]
  rw[<- hl2];rfl
open Classical in
noncomputable def Vu(s px py pz x y z s' px' py' pz' x' y' z':Int):List Int :=
 if ¬Y4 s px py pz x y z∨¬Y4 s' px' py' pz' x' y' z' then[0,0,0,0,0,0,0,5]
 else if s≠s' then[0,0,0,0,0,0,0,2]
 else if s=0 then[0]++Vg (Xb R1 (rsV px py pz) (rsV px' py' pz'))++[0,0,0,0]
 else[s,0,0,0]++(Xv (pL s) ⟨x,y,z⟩ ⟨x',y',z'⟩).l++[0]
noncomputable def Za9(f:FuncId):K:={fn:=f,ext:=false,ins:=[.agg Qeq,.agg Qeq],outs:=[.agg Qeq,oI],pre:=fun _=>True,sem:=fun|[s,px,py,pz,x,y,z,s',px',py',pz',x',y',z']=>Vu s px py pz x y z s' px' py' pz' x' y' z'|_=>[] }
def Zyk:Qn:=(xw 0 [.v 0,.v 1,.v 2,.v 3,.v 4,.v 5,.v 6] 14 U3
(.l 15 .bit (.not (.v 14))
(.split 15
(.ret [.n 0,.n 0,.n 0,.n 0,.n 0,.n 0,.n 0,.n 5])
(xw 0 [.v 7,.v 8,.v 9,.v 10,.v 11,.v 12,.v 13] 16 U3
(.l 17 .bit (.not (.v 16))
(.split 17
(.ret [.n 0,.n 0,.n 0,.n 0,.n 0,.n 0,.n 0,.n 5])
(.l 546 .bit (.c .neq (.v 0) (.v 7))
(.split 546
(.ret [.n 0,.n 0,.n 0,.n 0,.n 0,.n 0,.n 0,.n 2])
(xw 1 [.v 0] 882 Q7
(xw 2 [.n 0,.v 882] 930 qoa
(.l 978 .bit (.c .geq (.v 930) (.n 0))
(.split 978
(.ret [.n 0,.n 0,.n 0,.n 0,.n 0,.n 0,.n 0,.n 2])
(.l 1074 .bit (.c .eql (.v 0) (.n 0))
(.split 1074
(xw 3 [.v 1,.v 2,.v 3,.v 8,.v 9,.v 10] 1075 qla
(.ret [.v 0,.v 1075,.v 1076,.v 1077,.n 0,.n 0,.n 0,.n 0]))
(xw 4 [.v 0,.v 4,.v 5,.v 6,.v 11,.v 12,.v 13] 1075 qqa
(.ret [.v 0,.n 0,.n 0,.n 0,.v 1075,.v 1076,.v 1077,.n 0]))))))))))))))))
theorem Zqg(f1 f2 f3 f4 f5 f:FuncId)(e:Nat->Int):Zyk.Xij [Qbt f1,Wl f2,Yj f3,Qv9 f4,Qoc f5] ⟨fun ys=>ys=(Za9 f).sem [e 0,e 1,e 2,e 3,e 4,e 5,e 6,e 7,e 8,e 9,e 10,e 11,e 12,e 13],[]⟩ e:=by
 show Zyk.Xij _ ⟨fun ys=>ys=Vu (e 0) (e 1) (e 2) (e 3) (e 4) (e 5) (e 6) (e 7) (e 8) (e 9) (e 10) (e 11) (e 12) (e 13),[]⟩ e;unfold Vu;refine⟨trivial,fun a14 _ a15 _=>?_⟩;have v14:e 14=bj (Y4 (e 0) (e 1) (e 2) (e 3) (e 4) (e 5) (e 6)):=a14;have b15:=Z6 a15;simp only[Qm]at b15;refine⟨fun h=>?_,fun h=>?_⟩
 ·rw[if_pos (.inl (Qak v14 (by clear v14;omega)))];rfl
 have hok:Y4 (e 0) (e 1) (e 2) (e 3) (e 4) (e 5) (e 6):=Vl v14 (by clear v14;omega);refine⟨trivial,fun a16 _ a17 _=>?_⟩;have v16:e 16=bj (Y4 (e 7) (e 8) (e 9) (e 10) (e 11) (e 12) (e 13)):=a16;have b17:=Z6 a17;simp only[Qm]at b17;refine⟨fun h=>?_,fun h=>?_⟩
 ·rw[if_pos (.inr (Qak v16 (by clear v16;omega)))];rfl
 have hok':Y4 (e 7) (e 8) (e 9) (e 10) (e 11) (e 12) (e 13):=Vl v16 (by clear v16;omega);have hs:=Qqt hok;rw[if_neg (fun hc=>by rcases hc with hc|hc;exact hc hok;exact hc hok')];intro a546 _;have b546:=Qaj a546;simp only[Qm]at b546;refine⟨fun h=>?_,fun h=>?_⟩
 ·rw[if_pos (show e 0≠e 7 by omega)];rfl
 have hss:e 0=e 7:=by omega
 rw[if_neg (fun hc=>hc hss)];refine⟨hs,fun a882 _=>⟨trivial,fun a930 _ a978 _=>?_⟩⟩;have v882:e 882=Xr (e 0):=a882;have v930:e 930<0↔0<e 882:=Ug a930;have b978:=Bt a978;simp only[Qm,Qp]at b978;have hr0:=Vv (e 0);refine⟨fun h=>by omega,fun _=>?_⟩;intro a1074 _;have b1074:=Zi a1074;simp only[Qm,Qp]at b1074;refine⟨fun h=>?_,fun h=>?_⟩
 ·have e0:e 0=0:=by omega
  have hg:onV (e 1) (e 2) (e 3):=by
   rcases hok with hh|hh
   ·exact hh.2.2.1
   ·rcases hh.1 with h1|h1 <;> omega
  have hg':onV (e 8) (e 9) (e 10):=by
   rcases hok' with hh|hh
   ·exact hh.2.2.1
   ·rcases hh.1 with h1|h1 <;> omega
  refine⟨⟨hg,hg'⟩,fun a1 _ a2 _ a3 _ a4 _=>?_⟩;have hr:[e 1075,e 1076,e 1077,e 1078]=Vg (Xb R1 (rsV (e 1) (e 2) (e 3)) (rsV (e 8) (e 9) (e 10)))++[0]:=by
   rw[show e 1075=_ from a1,show e 1076=_ from a2,show e 1077=_ from a3,show e 1078=_ from a4];rfl
  rw[if_pos e0];show[e 0,e 1075,e 1076,e 1077,0,0,0,0]=_;have hl:[e 1075,e 1076,e 1077]=Vg (Xb R1 (rsV (e 1) (e 2) (e 3)) (rsV (e 8) (e 9) (e 10))):=by
   unfold Vg at hr ⊢;injection hr with x1 hr;injection hr with x2 hr;injection hr with x3 hr;rw[x1,x2,x3]
  rw[<- hl,e0];rfl
 ·have n0:¬e 0=0:=by omega
  obtain⟨hl,hin⟩:Je (e 0)/\inP (pL (e 0)) (Xr (e 0)) (e 4) (e 5) (e 6):=by
   rcases hok with hh|hh
   ·exact absurd hh.1 n0
   ·exact⟨hh.1,hh.2.2⟩
  have hin':inP (pL (e 0)) (Xr (e 0)) (e 11) (e 12) (e 13):=by
   rcases hok' with hh|hh
   ·exact absurd (hss.trans hh.1) n0
   ·rw[hss];exact hh.2.2
  refine⟨⟨hl,hin.1,hin'.1⟩,fun a1 _ a2 _ a3 _ a4 _=>?_⟩;have hr:[e 1075,e 1076,e 1077,e 1078]=(Xv (pL (e 0)) ⟨e 4,e 5,e 6⟩ ⟨e 11,e 12,e 13⟩).l++[0]:=by
   rw[show e 1075=_ from a1,show e 1076=_ from a2,show e 1077=_ from a3,show e 1078=_ from a4];rfl
  rw[if_neg n0];show[e 0,0,0,0,e 1075,e 1076,e 1077,0]=_;have hl2:[e 1075,e 1076,e 1077]=(Xv (pL (e 0)) ⟨e 4,e 5,e 6⟩ ⟨e 11,e 12,e 13⟩).l:=by
   unfold Pt.l at hr ⊢;injection hr with x1 hr;injection hr with x2 hr;injection hr with x3 hr;rw[x1,x2,x3]
  rw[<- hl2];rfl
def Zpq(s:Int):List Int:=if s=0 then[0,g1X,g1Y,0,0,0,0,0]else[s,0,0,0,if s=1 then 9723 else 613740293506734924,if s=1 then 164643 else 666621259561003659,0,0]
def Qva(f:FuncId):K:={fn:=f,ext:=false,ins:=[iI],outs:=[.agg Qeq,oI],pre:=fun|[s]=>Y5 s|_=>False,sem:=fun|[s]=>Zpq s|_=>[] }
def Zxe:Qn:=(.l 1 .bit (.c .eql (.v 0) (.n 0))
(.split 1
(xw 0 [] 2 qka
(.ret [.n 0,.v 2,.v 3,.v 4,.n 0,.n 0,.n 0,.n 0]))
(xw 1 [.v 0] 2 qqa
(.l 6 .bit (.c .neq (.v 5) (.n 0))
(.split 6
(.ret [.n 0,.n 0,.n 0,.n 0,.n 0,.n 0,.n 0,.v 5])
(.ret [.v 0,.n 0,.n 0,.n 0,.v 2,.v 3,.v 4,.n 0]))))))
theorem Zjz(f1 f2 f:FuncId)(e:Nat->Int)(hp:(Qva f).pre [e 0]):Zxe.Xij [Qww f1,Qrj f2] ⟨fun ys=>ys=(Qva f).sem [e 0],[]⟩ e:=by
 have hs:Y5 (e 0):=hp;show Zxe.Xij _ ⟨fun ys=>ys=Zpq (e 0),[]⟩ e;unfold Zpq;intro a1 _;have b1:=Zi a1;simp only[Qm,Qp]at b1;refine⟨fun h=>?_,fun h=>?_⟩
 ·refine⟨trivial,fun a2 _ a3 _ a4 _=>?_⟩;show[0,e 2,e 3,e 4,0,0,0,0]=_;rw[if_pos (show e 0=0 by omega),show e 2=g1X from a2,show e 3=g1Y from a3,show e 4=0 from a4]
 ·have hl:Je (e 0):=by
   obtain⟨h1,h2⟩:=hs;have:e 0=1∨e 0=2:=by omega
   exact this
  refine⟨hl,fun a2 _ a3 _ a4 _ a5 _ a6 _=>?_⟩;have v5:e 5=0:=a5;have b6:=Qaj a6;simp only[Qm,Qp]at b6;refine⟨fun h=>by omega,fun _=>?_⟩;show[e 0,0,0,0,e 2,e 3,e 4,0]=_;rw[if_neg (show ¬e 0=0 by omega),show e 2=(if e 0=1 then 9723 else 613740293506734924)from a2,show e 3=(if e 0=1 then 164643 else 666621259561003659)from a3,show e 4=0 from a4]
end Go.Sx
namespace Go.Sx
open Go Go.RowKit
set_option maxRecDepth 100000
def Xo(x:Int):Int:=x^(bP-2).toNat
theorem Zxh:((Np.nP:Nat):Int)=bP:=rfl
theorem Qb8{x:Int}(h:¬x%bP=0):(x*Xo x)%bP=1:=by
 have h1:=Zl (x:=x) Q5;have hf:=Qzv Np.p_base (a:=x%bP) (by omega) (by rw[Zxh];exact h1.2);rw[Zxh]at hf;rw[<- hf];unfold Xo;generalize (bP-2).toNat=n;exact(Q2 (Q9 x) ((Q9 _).trans (J7 (Q9 x) n))).symm
theorem Xbd:(1:Int)%bP=1:=by decide
theorem Qbk{x y:Int}(h:(x*y)%bP=0)(hx:¬x%bP=0):y%bP=0:=by
 have hi:=Qb8 hx;have h1:(y*(x*Xo x))%bP=y%bP:=by
  have:=Q2 (p:=bP) (a:=y) (A:=y) rfl (hi.trans Xbd.symm);rw[Ha]at this;exact this
 rw[<- h1,show y*(x*Xo x)=x*y*Xo x by rw[<- Kx,Mw y x]];exact Yx _ h
theorem Znk{x y:Int}(h0:0<=x/\x<bP)(h1:0<=y/\y<bP)(h:¬x=y):¬(y-x)%bP=0:=by unfold bP at *;omega
theorem Zm3{y y':Int}(h0:0<=y/\y<bP)(h1:0<=y'/\y'<bP)(h:(y'+y)%bP=0):y=(-y')%bP:=by unfold bP at *;omega
section
variable {x y x' y':Int}
end
end Go.Sx

namespace Go.Sx
open Go Go.RowKit
set_option maxRecDepth 100000
open Classical in
noncomputable def Vz(s px py pz x y z:Int):List Int :=
 if ¬Y4 s px py pz x y z then[0,0,0,0,0,0,0,5]
 else if s=0 then[0,px,(-py)%bP,pz,0,0,0,0]else[s,0,0,0,x,(-y)%pL s,z,0]
noncomputable def Zc9(f:FuncId):K:={fn:=f,ext:=false,ins:=[.agg Qeq],outs:=[.agg Qeq,oI],pre:=fun _=>True,sem:=fun|[s,px,py,pz,x,y,z]=>Vz s px py pz x y z|_=>[] }
theorem Zte{s px py pz x y z:Int}(h:Y4 s px py pz x y z)(h0:s=0):(x=0/\y=0/\z=0)/\inG px py pz:=by
 rcases h with h|h
 ·exact h.2
 ·rcases h.1 with h1|h1 <;> omega
theorem Zsg{s px py pz x y z:Int}(h:Y4 s px py pz x y z)(h0:¬s=0):Je s/\(px=0/\py=0/\pz=0)/\inP (pL s) (Xr s) x y z:=by
 rcases h with h|h
 ·exact absurd h.1 h0
 ·exact h
def Zwo:Qn:=(xw 0 [.v 0,.v 1,.v 2,.v 3,.v 4,.v 5,.v 6] 7 U3
(.l 8 .bit (.not (.v 7))
(.split 8
(.ret [.n 0,.n 0,.n 0,.n 0,.n 0,.n 0,.n 0,.n 5])
(.l 537 .bit (.c .neq (.v 0) (.v 0))
(.split 537
(.ret [.n 0,.n 0,.n 0,.n 0,.n 0,.n 0,.n 0,.n 2])
(xw 1 [.v 0] 873 Q7
(xw 2 [.n 0,.v 873] 921 qoa
(.l 969 .bit (.c .geq (.v 921) (.n 0))
(.split 969
(.ret [.n 0,.n 0,.n 0,.n 0,.n 0,.n 0,.n 0,.n 2])
(.l 1065 .bit (.c .eql (.v 0) (.n 0))
(.split 1065
(xw 3 [.v 1,.v 2,.v 3] 1066 qla
(.ret [.v 0,.v 1066,.v 1067,.v 1068,.n 0,.n 0,.n 0,.n 0]))
(xw 4 [.v 0,.v 4,.v 5,.v 6] 1066 qqa
(.ret [.v 0,.n 0,.n 0,.n 0,.v 1066,.v 1067,.v 1068,.n 0])))))))))))))
theorem Zjp(f1 f2 f3 f4 f5 f:FuncId)(e:Nat->Int):Zwo.Xij [Qbt f1,Wl f2,Yj f3,Zly f4,Qrb f5] ⟨fun ys=>ys=(Zc9 f).sem [e 0,e 1,e 2,e 3,e 4,e 5,e 6],[]⟩ e:=by
 show Zwo.Xij _ ⟨fun ys=>ys=Vz (e 0) (e 1) (e 2) (e 3) (e 4) (e 5) (e 6),[]⟩ e;unfold Vz;refine⟨trivial,fun a7 _ a8 _=>?_⟩;have v7:e 7=bj (Y4 (e 0) (e 1) (e 2) (e 3) (e 4) (e 5) (e 6)):=a7;have b8:=Z6 a8;simp only[Qm]at b8;refine⟨fun h=>?_,fun h=>?_⟩
 ·rw[if_pos (Qak v7 (Zc b8 h))];rfl
 have hok:=Vl v7 (Xf b8 h);have hs:=Qqt hok;rw[if_neg (fun hc=>hc hok)];intro a537 _;have b537:=Qaj a537;simp only[Qm]at b537;refine⟨fun h=>by
  rcases b537 with⟨_,k⟩|⟨k,_⟩
  ·exact absurd trivial k
  ·exact absurd k h,fun _=>⟨hs,fun a873 _=>⟨trivial,fun a921 _ a969 _=>?_⟩⟩⟩
 have v873:e 873=Xr (e 0):=a873;have v921:e 921<0↔0<e 873:=Ug a921;have b969:=Bt a969;simp only[Qm,Qp]at b969;have hr0:=Vv (e 0);refine⟨fun h=>by omega,fun _=>?_⟩;intro a1065 _;have b1065:=Zi a1065;simp only[Qm,Qp]at b1065;refine⟨fun h=>?_,fun h=>?_⟩
 ·have e0:e 0=0:=Zc b1065 h;have hg:=(Zte hok e0).2.1;refine⟨trivial,fun a1 _ a2 _ a3 _ a4 _=>?_⟩;have hn:=Zmq hg;rw[if_pos e0];show[e 0,e 1066,e 1067,e 1068,0,0,0,0]=_;rw[show e 1066=(Qwv (e 1) (e 2) (e 3)).getD 0 0 from a1,show e 1067=(Qwv (e 1) (e 2) (e 3)).getD 1 0 from a2,show e 1068=(Qwv (e 1) (e 2) (e 3)).getD 2 0 from a3,hn,e0];rfl
 ·have n0:¬e 0=0:=Xf b1065 h;obtain⟨hl,_,hin⟩:=Zsg hok n0;refine⟨⟨hl,hin.1⟩,fun a1 _ a2 _ a3 _ a4 _=>?_⟩;rw[if_neg n0];show[e 0,0,0,0,e 1066,e 1067,e 1068,0]=_;rw[show e 1066=e 4 from a1,show e 1067=(-e 5)%pL (e 0)from a2,show e 1068=e 6 from a3]
end Go.Sx

namespace Go.Sx
open Go Go.RowKit
set_option maxRecDepth 100000
def be4(n:Int):List Int:=[n/16777216%256,n/65536%256,n/256%256,n%256]
noncomputable def Z2:List Int->List Int
 |[]=>[]
 |x::l=>be4 ((dec x).length:Int)++(dec x++Z2 l)
noncomputable def Y6:List Int->Int
 |[]=>0
 |x::l=>(4+((dec x).length:Int))+Y6 l
theorem Zf8(a:List Int)(x:Int):Z2 (a++[x])=Z2 a++(be4 ((dec x).length:Int)++dec x):=by
 induction a with
 |nil=>simp[Z2]
 |cons y a ih=>simp only[List.cons_append,Z2,ih,K8]
theorem Qu6(a b:List Int):Y6 (a++b)=Y6 a+Y6 b:=by
 induction a with
 |nil=>simp[Y6]
 |cons y a ih=>simp only[List.cons_append,Y6,ih];omega
theorem Qid(l:List Int):((Z2 l).length:Int)=Y6 l:=by
 induction l with
 |nil=>rfl
 |cons y a ih=>simp only[Z2,Y6,Mk,<- ih,be4,O0,Mf];omega
theorem Qsk(l:List Int):0<=Y6 l:=by rw[<- Qid];omega
theorem Qpb(l:List Int)(n:Nat):Y6 (l.take n)<=Y6 l:=by
 have h1:=Qu6 (l.take n) (l.drop n);rw[List.take_append_drop]at h1;have:=Qsk (l.drop n);omega
theorem Znt{l:List Int}{n:Nat}(h:n<l.length):l.take (n+1)=l.take n++[l.getD n 0]:=by
 rw[M8 h,Ov,O4 h];rfl
theorem Qys{l:List Int}{n:Nat}(h:n<l.length):Z2 (l.take (n+1))=Z2 (l.take n)++(be4 ((dec (l.getD n 0)).length:Int)++dec (l.getD n 0)):=by rw[Znt h,Zf8]
theorem Qqd{l:List Int}{n:Nat}(h:n<l.length):Y6 (l.take (n+1))=Y6 (l.take n)+(4+((dec (l.getD n 0)).length:Int)):=by rw[Znt h,Qu6];simp[Y6]
theorem Zgt(l:List Int):4*(l.length:Int)<=Y6 l:=by
 induction l with
 |nil=>exact Int.le_refl _
 |cons x l ih=>simp only[Y6,O0];omega
theorem Zex(n:Int):(be4 n).length=4:=rfl
def Qqz(te:TypeId)(f:FuncId):K:={fn:=f,ext:=false,ins:=[iI],outs:=[.lst te (.int .u8)],pre:=fun|[n]=>0<=n|_=>False,sem:=fun|[n]=>[enc (be4 n)]|_=>[] }
noncomputable def Qdv(te:TypeId)(f:FuncId):K:={fn:=f,ext:=false,ins:=[.ll],outs:=[.lst te (.int .u8)],pre:=fun|[x]=>Y6 (dec x)<=65536|_=>False,sem:=fun|[x]=>[enc (Z2 (dec x))]|_=>[] }
noncomputable def Qp4(x:Int):List Int:=if Y6 (dec x)<=65536 then[enc (Z2 (dec x)),0]else[0,3]
def Zqb(x:Int):Prop:=∀z∈dec x,((dec z).length:Int)<4611686018427387904
noncomputable def Qur(te:TypeId)(f:FuncId):K:={fn:=f,ext:=false,ins:=[iI,.ll],outs:=[.lst te (.int .u8),oI],pre:=fun|[_,x]=>Zqb x|_=>False,sem:=fun|[s,x]=>if Y5 s then Qp4 x else[0,2]|_=>[] }
def Zqm:Qn:=(.l 1 .bit (.c .eql (.v 0) (.n 0))
(.split 1
(.ret [.n 1])
(.l 2 .bit (.c .eql (.v 0) (.n 1))
(.split 2
(.ret [.n 1])
(.l 3 .bit (.c .eql (.v 0) (.n 2))
(.ret [.v 3]))))))
theorem Ziy(f:FuncId)(e:Nat->Int):Zqm.Xij [] ⟨fun ys=>ys=(kIs f).sem [e 0],[]⟩ e:=by
 show Zqm.Xij _ ⟨fun ys=>ys=[bi (Y5 (e 0))],[]⟩ e;intro a1 _;have b1:=Zi a1;simp only[Qm,Qp]at b1;refine⟨fun h=>?_,fun h=>?_⟩
 ·show[(1:Int)]=[bi (Y5 (e 0))]
  rw[bi,if_pos (by unfold Y5;omega)]
 intro a2 _;have b2:=Zi a2;simp only[Qm,Qp]at b2;refine⟨fun h=>?_,fun h=>?_⟩
 ·show[(1:Int)]=[bi (Y5 (e 0))]
  rw[bi,if_pos (by unfold Y5;omega)]
 intro a3 _;have b3:=Zi a3;simp only[Qm,Qp]at b3;show[e 3]=[bi (Y5 (e 0))]
 rcases b3 with⟨h1,h2⟩|⟨h1,h2⟩
 ·rw[h1,bi,if_pos (by unfold Y5;omega)]
 ·rw[h1,bi,if_neg (by unfold Y5;omega)]
def Zti:Qn:=(.l 1 kI (.b .shr .i64 (.v 0) (.n 24))
(.l 2 kB (.conv .u8 (.v 1))
(.l 3 kI (.b .shr .i64 (.v 0) (.n 16))
(.l 4 kB (.conv .u8 (.v 3))
(.l 5 kI (.b .shr .i64 (.v 0) (.n 8))
(.l 6 kB (.conv .u8 (.v 5))
(.l 7 kB (.conv .u8 (.v 0))
(.l 8 (.lst (.int .u8)) (.lapp (.n 0) [.v 2,.v 4,.v 6,.v 7])
(.ret [.v 8])))))))))
theorem Qyn(te:TypeId)(f:FuncId)(e:Nat->Int)(hp:0<=e 0):Zti.Xij [] ⟨fun ys=>ys=(Qqz te f).sem [e 0],[]⟩ e:=by
 intro a1 _ a2 _ a3 _ a4 _ a5 _ a6 _ a7 _ a8 _;have v1:e 1=e 0/16777216:=Vy (c:=24) 16777216 a1 (by decide) (by decide);have v3:e 3=e 0/65536:=Vy (c:=16) 65536 a3 (by decide) (by decide);have v5:e 5=e 0/256:=Vy (c:=8) 256 a5 (by decide) (by decide);have v2:e 2=e 1%256:=a2;have v4:e 4=e 3%256:=a4;have v6:e 6=e 5%256:=a6;have v7:e 7=e 0%256:=a7;have v8:e 8=enc (dec 0++[e 2,e 4,e 6,e 7]):=a8;show[e 8]=[enc (be4 (e 0))]
 rw[v8,Qu,Mu,v2,v4,v6,v7,v1,v3,v5];rfl
def Zd6:Qn:=(.l 1 kI (.llen (.v 0))
(.loop [.n 0,.n 0] [kI,(.lst (.int .u8))] 2
(.l 4 .bit (.c .lss (.v 2) (.v 1))
(.split 4
(.l 5 kI (.llen (.v 0))
(.l 6 .bit (.c .leq (.n 0) (.v 2))
(.l 7 .bit (.c .lss (.v 2) (.v 5))
(.nz (.v 6)
(.nz (.v 7)
(.l 8 (.lst (.int .u8)) (.lget (.v 0) (.v 2))
(.l 9 kI (.llen (.v 8))
(xw 0 [.v 9] 10 qta
(.l 11 kI (.llen (.v 3))
(.l 12 .bit (.c .lss (.v 11) (.n 2147483648))
(.l 13 kI (.llen (.v 10))
(.l 14 .bit (.c .lss (.v 13) (.n 2147483648))
(.nz (.v 12)
(.nz (.v 14)
(.l 15 (.lst (.int .u8)) (.lcat (.v 3) (.v 10))
(.l 16 kI (.llen (.v 15))
(.l 17 .bit (.c .lss (.v 16) (.n 2147483648))
(.l 18 kI (.llen (.v 8))
(.l 19 .bit (.c .lss (.v 18) (.n 2147483648))
(.nz (.v 17)
(.nz (.v 19)
(.l 20 (.lst (.int .u8)) (.lcat (.v 15) (.v 8))
(.l 21 kI (.b .add .i64 (.v 2) (.n 1))
(.back 0 [.v 21,.v 20]))))))))))))))))))))))))
(.ret [.v 3])))))
theorem Qz0(te:TypeId)(f1 f:FuncId)(e:Nat->Int)(hp:(Qdv te f).pre [e 0]):Zd6.Xij [Qqz te f1] ⟨fun ys=>ys=(Qdv te f).sem [e 0],[]⟩ e:=by
 have hp:Y6 (dec (e 0))<=65536:=hp;show Zd6.Xij _ ⟨fun ys=>ys=[enc (Z2 (dec (e 0)))],[]⟩ e;obtain⟨L,d0⟩:∃L,dec (e 0)=L:=⟨_,rfl⟩
 rw[d0]at hp ⊢;have hlong:=Zgt L;intro a1 _;have v1:e 1=(L.length:Int):=by rw[<- d0];exact a1
 refine⟨fun|[i,q]=>(0<=i/\i<=L.length)/\q=enc (Z2 (L.take i.toNat))|_=>False,fun|[i,_]=>(L.length-i).toNat|_=>0,⟨⟨Int.le_refl _,(show(0:Int)<=L.length by omega)⟩,(show(0:Int)=enc []from rfl)⟩,fun e' he hkk hI=>?_⟩;obtain⟨⟨i0,i1⟩,q3⟩:(0<=e' 2/\e' 2<=L.length)/\e' 3=enc (Z2 (L.take (e' 2).toNat)):=hI;have d0:=(congrArg dec (he 0 (by decide))).trans d0;have v1:=(he 1 (by decide)).trans v1;have d3:=(congrArg dec q3).trans (Qr _);clear he hkk a1;intro a4 _;have b4:=Va a4;simp only[Qm]at b4;refine⟨fun h=>?_,fun h=>?_⟩
 ·have c4:e' 2<L.length:=by have:=Zc b4 h;omega
  intro a5 _ a6 _ a7 _;have v5:e' 5=(L.length:Int):=by rw[<- d0];exact a5
  have hn:(e' 2).toNat<L.length:=by omega
  have t1:=Qqd hn;have t2:=Qpb L ((e' 2).toNat+1);have t3:=Qsk (L.take (e' 2).toNat);have t4:=Qid (L.take (e' 2).toNat);refine⟨Zb a6 i0,Zk a7 (by show e' 2<e' 5;omega),fun a8 _ a9 _=>⟨?_,fun a10 _ a11 _ a12 _ a13 _ a14 _=>?_⟩⟩
  ·have v9:e' 9=((dec (e' 8)).length:Int):=a9;show 0<=e' 9;omega
  have v8:e' 8=L.getD (e' 2).toNat 0:=by rw[<- d0];exact a8
  have v9:e' 9=((dec (e' 8)).length:Int):=a9;have d10:dec (e' 10)=be4 (e' 9):=by rw[show e' 10=enc (be4 (e' 9))from a10,Qr]
  have v11:e' 11=((dec (e' 3)).length:Int):=a11;have v13:e' 13=((dec (e' 10)).length:Int):=a13;rw[<- v8]at t1;rw[d3]at v11;rw[d10,Zex]at v13;refine⟨Zk a12 (by show e' 11<2147483648;omega),Zk a14 (by show e' 13<2147483648;omega),fun a15 _ a16 _ a17 _ a18 _ a19 _=>?_⟩;have d15:dec (e' 15)=Z2 (L.take (e' 2).toNat)++be4 (e' 9):=by rw[show e' 15=enc (dec (e' 3)++dec (e' 10))from a15,Qr,d3,d10]
  have v16:e' 16=((dec (e' 15)).length:Int):=a16;have v18:e' 18=((dec (e' 8)).length:Int):=a18;rw[d15,Mk,Zex]at v16;refine⟨Zk a17 (by show e' 16<2147483648;omega),Zk a19 (by show e' 18<2147483648;omega),fun a20 _ a21 _=>?_⟩;have v21:=Zi3 (a:=e' 2) (b:=1) a21 (by omega);show((0<=e' 21/\e' 21<=L.length)/\e' 20=enc (Z2 (L.take (e' 21).toNat)))/\(L.length-e' 21).toNat<(L.length-e' 2).toNat;refine⟨⟨by omega,?_⟩,by omega⟩;rw[show e' 20=enc (dec (e' 15)++dec (e' 8))from a20,d15,show(e' 21).toNat=(e' 2).toNat+1 by omega,Qys hn,v9,v8,K8]
 ·have c4:e' 2=L.length:=by have:=Xf b4 h;omega
  show[e' 3]=[enc (Z2 L)]
  rw[q3,c4,O9,O8 (Nat.le_refl _)]
def Zv9:Qn:=(xw 1 [.v 0] 2 U3
(.l 3 .bit (.not (.v 2))
(.split 3
(.ret [.n 0,.n 2])
(.l 4 kI (.llen (.v 1))
(.loop [.n 0,.n 0] [kI,kI] 5
(.l 7 .bit (.c .lss (.v 5) (.v 4))
(.split 7
(.l 8 kI (.llen (.v 1))
(.l 9 .bit (.c .leq (.n 0) (.v 5))
(.l 10 .bit (.c .lss (.v 5) (.v 8))
(.nz (.v 9)
(.nz (.v 10)
(.l 11 (.lst (.int .u8)) (.lget (.v 1) (.v 5))
(.l 12 kI (.llen (.v 11))
(.l 13 kI (.b .add .i64 (.n 4) (.v 12))
(.l 14 kI (.b .add .i64 (.v 6) (.v 13))
(.l 15 .bit (.c .gtr (.v 14) (.n 65536))
(.split 15
(.ret [.n 0,.n 3])
(.l 16 kI (.b .add .i64 (.v 5) (.n 1))
(.back 0 [.v 16,.v 14])))))))))))))
(xw 0 [.v 1] 8 qta
(.ret [.v 8,.n 0])))))))))
theorem Zm5(te:TypeId)(f1 f2 f:FuncId)(e:Nat->Int)(hk:Qy [.int .i64,.lst .byt] [e 0,e 1])(hp:(Qur te f).pre [e 0,e 1]):Zv9.Xij [Qdv te f1,kIs f2] ⟨fun ys=>ys=(Qur te f).sem [e 0,e 1],[]⟩ e:=by
 have hp:Zqb (e 1):=hp;have hL:=hk.2.1.1;show Zv9.Xij _ ⟨fun ys=>ys=if Y5 (e 0)then Qp4 (e 1)else[0,2],[]⟩ e;unfold Zqb at hp;unfold Qp4;obtain⟨L,d1⟩:∃L,dec (e 1)=L:=⟨_,rfl⟩
 rw[d1]at hp hL ⊢;clear hk;refine⟨trivial,fun a2 _ a3 _=>?_⟩;have v2:e 2=bi (Y5 (e 0)):=a2;have b3:=Z6 a3;simp only[Qm]at b3;refine⟨fun h=>?_,fun h=>?_⟩
 ·have hn:¬Y5 (e 0):=fun hs=>by rw[bi,if_pos hs]at v2;omega
  rw[if_neg hn];rfl
 have hs:Y5 (e 0):=by
  by_cases hs:Y5 (e 0)
  ·exact hs
  ·rw[bi,if_neg hs]at v2;omega
 rw[if_pos hs];intro a4 _;have v4:e 4=(L.length:Int):=by rw[<- d1];exact a4
 refine⟨fun|[i,v]=>(0<=i/\i<=L.length)/\v=Y6 (L.take i.toNat)/\v<=65536|_=>False,fun|[i,_]=>(L.length-i).toNat|_=>0,⟨⟨Int.le_refl _,(show(0:Int)<=L.length by omega)⟩,rfl,(show(0:Int)<=65536 by decide)⟩,fun e' he hkk hI=>?_⟩;obtain⟨⟨i0,i1⟩,q6,q7⟩:(0<=e' 5/\e' 5<=L.length)/\e' 6=Y6 (L.take (e' 5).toNat)/\e' 6<=65536:=hI;have d1:=(congrArg dec (he 1 (by decide))).trans d1;have v4:=(he 4 (by decide)).trans v4;clear he hkk a2 a3 a4 b3 h;intro a7 _;have b7:=Va a7;simp only[Qm]at b7;refine⟨fun h=>?_,fun h=>?_⟩
 ·have c7:e' 5<L.length:=by have:=Zc b7 h;omega
  intro a8 _ a9 _ a10 _;have v8:e' 8=(L.length:Int):=by rw[<- d1];exact a8
  have hn:(e' 5).toNat<L.length:=by omega
  have t1:=Qqd hn;have t2:=Qpb L ((e' 5).toNat+1);have t3:=Qsk (L.take (e' 5).toNat);refine⟨Zb a9 i0,Zk a10 (by show e' 5<e' 8;omega),fun a11 _ a12 _ a13 _ a14 _ a15 _=>?_⟩;have v11:e' 11=L.getD (e' 5).toNat 0:=by rw[<- d1];exact a11
  have v12:e' 12=((dec (e' 11)).length:Int):=a12;have hz:=hp (e' 11) (by rw[v11,Ov,O4 hn];exact M9 hn);have v13:=Zi3 (a:=4) (b:=e' 12) a13 (by omega);have v14:=Zi3 (a:=e' 6) (b:=e' 13) a14 (by omega);rw[<- v11]at t1;have b15:=Qnw a15;simp only[Qm,Qp]at b15;refine⟨fun h=>?_,fun h=>?_⟩
  ·have c15:=Zc b15 h;rw[if_neg (by omega)];rfl
  ·have c15:=Xf b15 h;intro a16 _;have v16:=Zi3 (a:=e' 5) (b:=1) a16 (by omega);show((0<=e' 16/\e' 16<=L.length)/\e' 14=Y6 (L.take (e' 16).toNat)/\e' 14<=65536)/\(L.length-e' 16).toNat<(L.length-e' 5).toNat;refine⟨⟨by omega,?_,by omega⟩,by omega⟩;rw[show(e' 16).toNat=(e' 5).toNat+1 by omega,t1];omega
 ·have c7:e' 5=L.length:=by have:=Xf b7 h;omega
  rw[c7,O9,O8 (Nat.le_refl _)]at q6;refine⟨?_,fun a8 _=>?_⟩
  ·show Y6 (dec (e' 1))<=65536;rw[d1];omega
  ·rw[if_pos (by omega)];show[e' 8,0]=[enc (Z2 L),0]
   rw[show e' 8=enc (Z2 (dec (e' 1)))from a8,d1]
namespace Sha
def rot(x n:Int):Int:=Qw .or .u32 (Qw .shr .u32 x n) (Qw .shl .u32 x (32-n))
theorem or_comm(k:IntKind)(a b:Int):Qw .or k a b=Qw .or k b a:=by
 simp only[Qw,BitVec.or_comm]
def kRot(f:FuncId):K:={fn:=f,ext:=false,ins:=[.one (.int .u32),.one (.int .i64)],outs:=[.one (.int .u32)],pre:=fun|[_,n]=>1<=n/\n<=31|_=>False,sem:=fun|[x,n]=>[rot x n]|_=>[] }
theorem Xe1:∀n:Int,1<=n->n<=31->Qw .and .u64 (wr .u64 (wr .i64 (0-n))) 31=32-n:=by
 intro n h1 h2;have h:n=1∨n=2∨n=3∨n=4∨n=5∨n=6∨n=7∨n=8∨n=9∨n=10∨n=11∨n=12∨n=13∨n=14∨n=15∨n=16∨n=17∨n=18∨n=19∨n=20∨n=21∨n=22∨n=23∨n=24∨n=25∨n=26∨n=27∨n=28∨n=29∨n=30∨n=31:=by omega
 rcases h with rfl|rfl|rfl|rfl|rfl|rfl|rfl|rfl|rfl|rfl|rfl|rfl|rfl|rfl|rfl|rfl|rfl|rfl|rfl|rfl|rfl|rfl|rfl|rfl|rfl|rfl|rfl|rfl|rfl|rfl|rfl <;> decide
def Zuq:Qn:=(.l 2 kI (.b .sub .i64 (.n 0) (.v 1))
(.l 3 kU (.conv .u64 (.v 2))
(.l 4 kU (.b .and .u64 (.v 3) (.n 31))
(.l 5 kW (.b .shl .u32 (.v 0) (.v 4))
(.l 6 kU (.b .sub .u64 (.n 32) (.v 4))
(.l 7 kW (.b .shr .u32 (.v 0) (.v 6))
(.l 8 kW (.b .or .u32 (.v 5) (.v 7))
(.ret [.v 8]))))))))
theorem law_dright(f:FuncId)(e:Nat->Int)(h1:1<=e 1)(h2:e 1<=31):Zuq.Xij [] ⟨fun ys=>ys=[rot (e 0) (e 1)],[]⟩ e:=by
 intro a1 _ a2 _ a3 _ a4 _ a5 _ a6 _ a7 _;have c1:e 2=wr .i64 (0-e 1):=a1;have c2:e 3=wr .u64 (e 2):=a2;have c3:e 4=Qw .and .u64 (e 3) 31:=a3;have c4:e 5=Qw .shl .u32 (e 0) (e 4):=a4;have c5:e 6=wr .u64 (32-e 4):=a5;have c6:e 7=Qw .shr .u32 (e 0) (e 6):=a6;have c7:e 8=Qw .or .u32 (e 5) (e 7):=a7;have d3:e 4=32-e 1:=by rw[c3,c2,c1];exact Xe1 _ h1 h2
 have d5:e 6=e 1:=by rw[c5,d3];simp only[wr];omega
 show[e 8]=_;rw[c7,c4,c6,d3,d5,or_comm];rfl
end Sha
namespace Sha
def sh8(a p:Int):Int:=Qw .or .u32 (Qw .shl .u32 a 8) p
def Xfd(b0 b1 b2 b3:Int):Int:=Qw .or .u32 (Qw .or .u32 (Qw .or .u32 (Qw .shl .u32 b0 24) (Qw .shl .u32 b1 16)) (Qw .shl .u32 b2 8)) b3
def ad(a b:Int):Int:=Qw .add .u32 a b
def xo(a b:Int):Int:=Qw .xor .u32 a b
def an(a b:Int):Int:=Qw .and .u32 a b
def s0(x:Int):Int:=xo (xo (rot x 7) (rot x 18)) (Qw .shr .u32 x 3)
def s1(y:Int):Int:=xo (xo (rot y 17) (rot y 19)) (Qw .shr .u32 y 10)
def Xgx(b:Nat->Int)(w:List Int)(t:Nat):Int :=
 if t<16 then Xfd (b (4*t)) (b (4*t+1)) (b (4*t+2)) (b (4*t+3))
 else ad (ad (ad (s1 (w.getD (t-2) 0)) (w.getD (t-7) 0)) (s0 (w.getD (t-15) 0))) (w.getD (t-16) 0)
def sch(b:Nat->Int):Nat->List Int
 |0=>List.replicate 64 0
 |t+1=>(sch b t).set t (Xgx b (sch b t) t)
def rp(k w:Int)(v:Nat->Int):Int :=
 ad (ad (ad (ad (v 7) (xo (xo (rot (v 4) 6) (rot (v 4) 11)) (rot (v 4) 25))) (xo (an (v 4) (v 5)) (an (xo 4294967295 (v 4)) (v 6)))) k) w
def rq(v:Nat->Int):Int :=
 ad (xo (xo (rot (v 0) 2) (rot (v 0) 13)) (rot (v 0) 22)) (xo (xo (an (v 0) (v 1)) (an (v 0) (v 2))) (an (v 1) (v 2)))
def rnd(k w:Int)(l:List Int):List Int :=
 let v:=fun i=>l.getD i 0
 [ad (rp k w v) (rq v),v 0,v 1,v 2,ad (v 3) (rp k w v),v 4,v 5,v 6]
def Xff(K:List Int)(w:List Int)(h:List Int):Nat->List Int
 |0=>h
 |t+1=>rnd (K.getD t 0) (w.getD t 0) (Xff K w h t)
def blk(K h:List Int)(b:Nat->Int):List Int :=
 let x:=Xff K (sch b 64) h 64
 [ad (h.getD 0 0) (x.getD 0 0),ad (h.getD 1 0) (x.getD 1 0),ad (h.getD 2 0) (x.getD 2 0),ad (h.getD 3 0) (x.getD 3 0),ad (h.getD 4 0) (x.getD 4 0),ad (h.getD 5 0) (x.getD 5 0),ad (h.getD 6 0) (x.getD 6 0),ad (h.getD 7 0) (x.getD 7 0)]
def run(K h:List Int)(b:Nat->Int):Nat->List Int
 |0=>h
 |j+1=>blk K (run K h b j) fun i=>b (64*j+i)
end Sha
end Go.Sx

namespace Go.Sx
open Go Go.RowKit
set_option maxRecDepth 100000
namespace Sha
def K0:List Int:=[1116352408,1899447441,3049323471,3921009573,961987163,1508970993,2453635748,2870763221,3624381080,310598401,607225278,1426881987,1925078388,2162078206,2614888103,3248222580,3835390401,4022224774,264347078,604807628,770255983,1249150122,1555081692,1996064986,2554220882,2821834349,2952996808,3210313671,3336571891,3584528711,113926993,338241895,666307205,773529912,1294757372,1396182291,1695183700,1986661051,2177026350,2456956037,2730485921,2820302411,3259730800,3345764771,3516065817,3600352804,4094571909,275423344,430227734,506948616,659060556,883997877,958139571,1322822218,1537002063,1747873779,1955562222,2024104815,2227730452,2361852424,2428436474,2756734187,3204031479,3329325298]
def H0:List Int:=[1779033703,3144134277,1013904242,2773480762,1359893119,2600822924,528734635,1541459225]
def eight(n:Int):List Int:=[56,48,40,32,24,16,8,0].map fun s=>wr .u8 (Qw .shr .u64 n s)
def Xgv(l:List Int):List Int:=l++List.replicate ((120-l.length%64)%64) 0
def Xhe(h:List Int):List Int:=[0,1,2,3,4,5,6,7].flatMap fun j=>[24,16,8,0].map fun s=>wr .u8 (Qw .shr .u32 (h.getD j 0) s)
def Zra(b:List Int):List Int:=Xgv (b++[128])++eight (8*(b.length:Int))
def sha(b:List Int):List Int:=Xhe (Sha.run K0 H0 (fun i=>(Zra b).getD i 0) ((Zra b).length/64))
noncomputable def kSum(f:FuncId):K:={fn:=f,ext:=false,ins:=[.lst (.int .u8)],outs:=[.agg [.arr .u8 32]],pre:=fun|[x]=>(dec x).length<1073741824|_=>False,sem:=fun|[x]=>[enc (sha (dec x))]|_=>[] }
end Sha
end Go.Sx


namespace Go.Sx
open Go Go.RowKit
set_option maxRecDepth 100000
theorem Zid{n a:Int}(h:n%2=1):Xs n a (Z9 n)=a*Qv%n:=by
 obtain⟨z,hz⟩:=RR1 h;show a*Z9 n*Zt n^384%n=_;refine md (a*z) ?_;have:a*(Z9 n*Zt n^384)=a*(Qv+n*z):=by rw[hz]
 grind
def Qk8(f:FuncId):K:={fn:=f,ext:=false,ins:=[iM,iN,iN],outs:=[oN],pre:=fun|[n,low,w,_,_]=>Wr n low w|_=>False,sem:=fun|[n,_,_,a,b]=>[(a+b*Qv)%n]|_=>[] }
def Zng:Qn:=(.l 5 .bit (.c .eql (.v 1) (.n 0))
(.split 5
(.ret [.n 0])
(xw 1 [.v 0,.v 1,.v 2,.v 4,.v 2] 390 Q7
(xw 0 [.v 0,.v 1,.v 2,.v 3,.v 390] 438 Q7
(.ret [.v 438])))))
theorem Zhv(f1 f2 f:FuncId)(e:Nat->Int)(hp:(Qk8 f).pre [e 0,e 1,e 2,e 3,e 4]):Zng.Xij [Qi4 f1,Qhr f2] ⟨fun ys=>ys=(Qk8 f).sem [e 0,e 1,e 2,e 3,e 4],[]⟩ e:=by
 have hp:Wr (e 0) (e 1) (e 2):=hp;have hm:=hp.1;have hw:=hp.2;have hn3:=hm.2.1;have hwl:=Qhf (n:=e 0) (by omega);show Zng.Xij _ ⟨fun ys=>ys=[(e 3+e 4*Qv)%e 0],[]⟩ e;intro a5 _;have b5:=Zi a5;simp only[Qm,Qp]at b5;refine⟨fun h=>?_,fun h=>?_⟩
 ·exact absurd (Zc b5 h) hm.Xjb
 refine⟨⟨hm,.inr (by show e 2<e 0;rw[hw];exact hwl.2)⟩,fun a390 _=>⟨hp,fun a438 _=>?_⟩⟩;have v390:e 390=Xs (e 0) (e 4) (e 2):=a390;have v438:e 438=(e 3+e 390)%e 0:=a438;show[e 438]=_;rw[v438,v390,hw,Zid hm.odd,Int.add_emod_emod]
def Qos(tag:Int)(t:List Int):List Int:=Sha.sha (tag::0::t)++Sha.sha (tag::1::t)
def Zo(n tag:Int)(t:List Int):Int:=(X4 ((Qos tag t).drop 16)+X4 ((Qos tag t).take 16)*Qv)%n
noncomputable def Qwk(Q:Int->List Int->Prop)(f:FuncId):K:={Sha.kSum f with pre:=fun|[x]=>∃tag t,Q tag t/\(x=enc (tag::0::t)∨x=enc (tag::1::t))|_=>False }
noncomputable def Qg1(Q:Int->List Int->Prop)(f:FuncId):K:={fn:=f,ext:=false,ins:=[iN,.one (.int .u8),.lst (.int .u8)],outs:=[oN],pre:=fun|[n,g,t]=>(n%2=1/\3<=n/\n<2^382)/\(dec t).length<=65536/\Q g (dec t)|_=>False,sem:=fun|[n,tag,t]=>[Zo n tag (dec t)]|_=>[] }
theorem Zza{l:List Int}(h:l.length=32):(List.range 32).map (fun j=>l.getD j 0)=l:=by
 apply Oae;intro i;rw[M0];rcases Ht i 32 with hi|hi
 ·rw[List.getElem?_range hi,Ka,Ov,O4 (by omega)];rfl
 ·rw[My (by simpa using hi),My (by omega)];rfl
theorem Zvy{v x:Int}(h:(dec x).length=32)(hv:v=enc (dec 0++(List.range 32).map (fun j=>(dec x).getD j 0))):dec v=dec x:=by rw[hv,Qr,Qu,Mu,Zza h]
theorem Qph{n:Int}(h1:n%2=1)(h2:3<=n)(h3:n<2^382):Wr n (Qeh n) (Z9 n):=Qgh h1 h2 h3
def Zj8:Qn:=(.l 3 (.lst (.int .u8)) (.lapp (.n 0) [.v 1,.n 0])
(.l 4 kI (.llen (.v 3))
(.l 5 .bit (.c .lss (.v 4) (.n 2147483648))
(.l 6 kI (.llen (.v 2))
(.l 7 .bit (.c .lss (.v 6) (.n 2147483648))
(.nz (.v 5)
(.nz (.v 7)
(.l 8 (.lst (.int .u8)) (.lcat (.v 3) (.v 2))
(xw 0 [.v 8] 9 [(.arr .u8 32)]
(.l 10 (.lst (.int .u8)) (.lapp (.n 0) [(.elt .u8 9 0),(.elt .u8 9 1),(.elt .u8 9 2),(.elt .u8 9 3),(.elt .u8 9 4),(.elt .u8 9 5),(.elt .u8 9 6),(.elt .u8 9 7),(.elt .u8 9 8),(.elt .u8 9 9),(.elt .u8 9 10),(.elt .u8 9 11),(.elt .u8 9 12),(.elt .u8 9 13),(.elt .u8 9 14),(.elt .u8 9 15),(.elt .u8 9 16),(.elt .u8 9 17),(.elt .u8 9 18),(.elt .u8 9 19),(.elt .u8 9 20),(.elt .u8 9 21),(.elt .u8 9 22),(.elt .u8 9 23),(.elt .u8 9 24),(.elt .u8 9 25),(.elt .u8 9 26),(.elt .u8 9 27),(.elt .u8 9 28),(.elt .u8 9 29),(.elt .u8 9 30),(.elt .u8 9 31)])
(.l 11 kI (.llen (.n 0))
(.l 12 .bit (.c .lss (.v 11) (.n 2147483648))
(.l 13 kI (.llen (.v 10))
(.l 14 .bit (.c .lss (.v 13) (.n 2147483648))
(.nz (.v 12)
(.nz (.v 14)
(.l 15 (.lst (.int .u8)) (.lcat (.n 0) (.v 10))
(.l 16 (.lst (.int .u8)) (.lapp (.n 0) [.v 1,.n 1])
(.l 17 kI (.llen (.v 16))
(.l 18 .bit (.c .lss (.v 17) (.n 2147483648))
(.l 19 kI (.llen (.v 2))
(.l 20 .bit (.c .lss (.v 19) (.n 2147483648))
(.nz (.v 18)
(.nz (.v 20)
(.l 21 (.lst (.int .u8)) (.lcat (.v 16) (.v 2))
(xw 0 [.v 21] 22 [(.arr .u8 32)]
(.l 23 (.lst (.int .u8)) (.lapp (.n 0) [(.elt .u8 22 0),(.elt .u8 22 1),(.elt .u8 22 2),(.elt .u8 22 3),(.elt .u8 22 4),(.elt .u8 22 5),(.elt .u8 22 6),(.elt .u8 22 7),(.elt .u8 22 8),(.elt .u8 22 9),(.elt .u8 22 10),(.elt .u8 22 11),(.elt .u8 22 12),(.elt .u8 22 13),(.elt .u8 22 14),(.elt .u8 22 15),(.elt .u8 22 16),(.elt .u8 22 17),(.elt .u8 22 18),(.elt .u8 22 19),(.elt .u8 22 20),(.elt .u8 22 21),(.elt .u8 22 22),(.elt .u8 22 23),(.elt .u8 22 24),(.elt .u8 22 25),(.elt .u8 22 26),(.elt .u8 22 27),(.elt .u8 22 28),(.elt .u8 22 29),(.elt .u8 22 30),(.elt .u8 22 31)])
(.l 24 kI (.llen (.v 15))
(.l 25 .bit (.c .lss (.v 24) (.n 2147483648))
(.l 26 kI (.llen (.v 23))
(.l 27 .bit (.c .lss (.v 26) (.n 2147483648))
(.nz (.v 25)
(.nz (.v 27)
(.l 28 (.lst (.int .u8)) (.lcat (.v 15) (.v 23))
(.l 29 kI (.llen (.v 28))
(.l 30 .bit (.c .leq (.n 0) (.n 0))
(.l 31 .bit (.c .leq (.n 0) (.n 16))
(.l 32 .bit (.c .leq (.n 16) (.v 29))
(.nz (.v 30)
(.nz (.v 31)
(.nz (.v 32)
(.l 33 (.lst (.int .u8)) (.lsub (.v 28) (.n 0) (.n 16))
(xw 1 [.v 33] 34 qsa
(.l 36 kI (.llen (.v 28))
(.l 37 .bit (.c .leq (.n 0) (.n 16))
(.l 38 .bit (.c .leq (.n 16) (.v 36))
(.l 39 .bit (.c .leq (.v 36) (.v 36))
(.nz (.v 37)
(.nz (.v 38)
(.nz (.v 39)
(.l 40 (.lst (.int .u8)) (.lsub (.v 28) (.n 16) (.v 36))
(xw 1 [.v 40] 41 qsa
(xw 2 [.v 0] 43 [.num,kU,.num]
(xw 3 [.v 43,.v 44,.v 45,.v 41,.v 34] 46 Q7
(.ret [.v 46])))))))))))))))))))))))))))))))))))))))))))))))))))))))
theorem Zpy(Q:Int->List Int->Prop)(te:TypeId)(f0 f1 f2 f3 f:FuncId)(e:Nat->Int)(hp:(Qg1 Q f).pre [e 0,e 1,e 2]):Zj8.Xij [Qwk Q f0,Qs6 f1,Qgb f2 te,Qk8 f3] ⟨fun ys=>ys=(Qg1 Q f).sem [e 0,e 1,e 2],[]⟩ e:=by
 obtain⟨hn,ht,hq⟩:(e 0%2=1/\3<=e 0/\e 0<2^382)/\(dec (e 2)).length<=65536/\Q (e 1) (dec (e 2)):=hp;show Zj8.Xij _ ⟨fun ys=>ys=[Zo (e 0) (e 1) (dec (e 2))],[]⟩ e;intro a3 _ a4 _ a5 _ a6 _ a7 _;have d3:dec (e 3)=[e 1,0]:=by rw[show e 3=enc (dec 0++[e 1,0])from a3,Qr,Qu];rfl
 have v4:e 4=2:=by rw[show e 4=((dec (e 3)).length:Int)from a4,d3];rfl
 have v6:e 6=((dec (e 2)).length:Int):=a6;refine⟨Zk a5 (by show e 4<2147483648;omega),Zk a7 (by show e 6<2147483648;omega),fun a8 _=>?_⟩;have d8:dec (e 8)=e 1::0::dec (e 2):=by rw[show e 8=enc (dec (e 3)++dec (e 2))from a8,Qr,d3];rfl
 refine⟨⟨e 1,dec (e 2),hq,.inl (by show e 8=_;rw[show e 8=enc (dec (e 3)++dec (e 2))from a8,d3];rfl)⟩,fun a9 k9 a10 _ a11 _ a12 _ a13 _ a14 _=>?_⟩;have l9:(dec (e 9)).length=32:=k9.2;have d9:dec (e 9)=Sha.sha (e 1::0::dec (e 2)):=by rw[show e 9=enc (Sha.sha (dec (e 8)))from a9,Qr,d8]
 have d10:dec (e 10)=dec (e 9):=Zvy l9 a10;have v11:e 11=0:=by rw[show e 11=((dec 0).length:Int)from a11,Qu];rfl
 have v13:e 13=32:=by rw[show e 13=((dec (e 10)).length:Int)from a13,d10,l9];rfl
 refine⟨Zk a12 (by show e 11<2147483648;omega),Zk a14 (by show e 13<2147483648;omega),fun a15 _ a16 _ a17 _ a18 _ a19 _ a20 _=>?_⟩;have d15:dec (e 15)=dec (e 9):=by rw[show e 15=enc (dec 0++dec (e 10))from a15,Qr,Qu,d10];rfl
 have d16:dec (e 16)=[e 1,1]:=by rw[show e 16=enc (dec 0++[e 1,1])from a16,Qr,Qu];rfl
 have v17:e 17=2:=by rw[show e 17=((dec (e 16)).length:Int)from a17,d16];rfl
 have v19:e 19=((dec (e 2)).length:Int):=a19;refine⟨Zk a18 (by show e 17<2147483648;omega),Zk a20 (by show e 19<2147483648;omega),fun a21 _=>?_⟩;have d21:dec (e 21)=e 1::1::dec (e 2):=by rw[show e 21=enc (dec (e 16)++dec (e 2))from a21,Qr,d16];rfl
 refine⟨⟨e 1,dec (e 2),hq,.inr (by show e 21=_;rw[show e 21=enc (dec (e 16)++dec (e 2))from a21,d16];rfl)⟩,fun a22 k22 a23 _ a24 _ a25 _ a26 _ a27 _=>?_⟩;have l22:(dec (e 22)).length=32:=k22.2;have d22:dec (e 22)=Sha.sha (e 1::1::dec (e 2)):=by rw[show e 22=enc (Sha.sha (dec (e 21)))from a22,Qr,d21]
 have d23:dec (e 23)=dec (e 22):=Zvy l22 a23;have v24:e 24=32:=by rw[show e 24=((dec (e 15)).length:Int)from a24,d15,l9];rfl
 have v26:e 26=32:=by rw[show e 26=((dec (e 23)).length:Int)from a26,d23,l22];rfl
 refine⟨Zk a25 (by show e 24<2147483648;omega),Zk a27 (by show e 26<2147483648;omega),fun a28 _ a29 _ a30 _ a31 _ a32 _=>?_⟩;have d28:dec (e 28)=Qos (e 1) (dec (e 2)):=by rw[show e 28=enc (dec (e 15)++dec (e 23))from a28,Qr,d15,d23,d9,d22];rfl
 have l28:(dec (e 28)).length=64:=by rw[show e 28=enc (dec (e 15)++dec (e 23))from a28,Qr,d15,d23,Mk,l9,l22]
 have v29:e 29=64:=by rw[show e 29=((dec (e 28)).length:Int)from a29,l28];rfl
 refine⟨Qpd a30 (show(0:Int)<=0 by decide),Qpd a31 (show(0:Int)<=16 by decide),Qpd a32 (by show 16<=e 29;omega),fun a33 _=>⟨trivial,fun a34 _ a35 _ a36 _ a37 _ a38 _ a39 _=>?_⟩⟩;have d33:dec (e 33)=(dec (e 28)).take 16:=by rw[show e 33=enc (((dec (e 28)).take 16).drop 0)from a33,Qr];rfl
 have v34:e 34=X4 ((dec (e 28)).take 16):=by
  have h:e 34=((if(dec (e 33)).length<=48 then[X4 (dec (e 33)),0]else[0,3]):List Int).getD 0 0:=a34;rw[h,d33,if_pos (by rw[Mi,l28];decide)];rfl
 have v36:e 36=64:=by rw[show e 36=((dec (e 28)).length:Int)from a36,l28];rfl
 refine⟨Qpd a37 (show(0:Int)<=16 by decide),Qpd a38 (by show 16<=e 36;omega),Qpd a39 (Int.le_refl _),fun a40 _=>⟨trivial,fun a41 _ a42 _=>?_⟩⟩;have d40:dec (e 40)=(dec (e 28)).drop 16:=by
  rw[show e 40=enc (((dec (e 28)).take (e 36).toNat).drop 16)from a40,Qr,v36,O8 (by rw[l28];decide)]
 have v41:e 41=X4 ((dec (e 28)).drop 16):=by
  have h:e 41=((if(dec (e 40)).length<=48 then[X4 (dec (e 40)),0]else[0,3]):List Int).getD 0 0:=a41;rw[h,d40,if_pos (by rw[Kg,l28];decide)];rfl
 refine⟨hn,fun a43 _ a44 _ a45 _=>?_⟩;have v43:e 43=e 0:=a43;have v44:e 44=Qeh (e 0):=a44;have v45:e 45=Z9 (e 0):=a45;refine⟨by show Wr (e 43) (e 44) (e 45);rw[v43,v44,v45];exact Qph hn.1 hn.2.1 hn.2.2,fun a46 _=>?_⟩;have v46:e 46=(e 41+e 34*Qv)%e 43:=a46;show[e 46]=_;rw[v46,v43,v41,v34,d28];rfl
def U0(s:Int):Int:=if s=0 then bP else pL s
def Qra(f:FuncId):K:={fn:=f,ext:=false,ins:=[iI],outs:=[.one (.int .u64),oI],pre:=fun|[s]=>Je s|_=>False,sem:=fun|[s]=>[pL s,0]|_=>[] }
def Qdk(f:FuncId):K:={fn:=f,ext:=false,ins:=[iI],outs:=[oN],pre:=fun|[s]=>Y5 s|_=>False,sem:=fun|[s]=>[U0 s]|_=>[] }
def Zdc:Qn:=(xw 0 [.v 0] 1 qia
(.l 8 .bit (.not (.v 7))
(.split 8
(.ret [.n 0,.n 2])
(.ret [.v 1,.n 0]))))
theorem Qxf(f1 f:FuncId)(e:Nat->Int)(hp:Je (e 0)):Zdc.Xij [Qo4 f1] ⟨fun ys=>ys=(Qra f).sem [e 0],[]⟩ e:=by
 show Zdc.Xij _ ⟨fun ys=>ys=[pL (e 0),0],[]⟩ e;refine⟨trivial,fun a1 _ a2 _ a3 _ a4 _ a5 _ a6 _ a7 _ a8 _=>?_⟩;have v1:e 1=(cvL (e 0)).getD 0 0:=a1;have v7:e 7=(cvL (e 0)).getD 6 0:=a7;have b8:=Z6 a8;simp only[Qm]at b8;have h7:e 7=1:=by rcases hp with h|h <;> rw[v7,h] <;> rfl
 have h1:e 1=pL (e 0):=by rcases hp with h|h <;> rw[v1,h] <;> rfl
 refine⟨fun h=>?_,fun h=>?_⟩
 ·omega
 ·show[e 1,0]=_;rw[h1]
def Zk3:Qn:=(.l 1 .bit (.c .eql (.v 0) (.n 0))
(.split 1
(xw 0 [] 2 Q7
(.ret [.v 2]))
(xw 1 [.v 0] 2 [kU,kI]
(xw 2 [.v 2] 4 Q7
(.ret [.v 4])))))
theorem Zit(f1 f2 f3 f:FuncId)(e:Nat->Int)(hp:Y5 (e 0)):Zk3.Xij [Qam f1,Qra f2,kOf f3] ⟨fun ys=>ys=(Qdk f).sem [e 0],[]⟩ e:=by
 show Zk3.Xij _ ⟨fun ys=>ys=[U0 (e 0)],[]⟩ e;intro a1 _;have b1:=Zi a1;simp only[Qm,Qp]at b1;refine⟨fun h=>⟨trivial,fun a2 _=>?_⟩,fun h=>?_⟩
 ·have:=Zc b1 h;show[e 2]=_;rw[show e 2=bP from a2,U0,if_pos this]
 ·have h0:=Xf b1 h;refine⟨by show Je (e 0);unfold Y5 at hp;unfold Je;omega,fun a2 _ a3 _=>⟨trivial,fun a4 _=>?_⟩⟩;show[e 4]=_;rw[show e 4=e 2 from a4,show e 2=pL (e 0)from a2,U0,if_neg h0]
end Go.Sx
