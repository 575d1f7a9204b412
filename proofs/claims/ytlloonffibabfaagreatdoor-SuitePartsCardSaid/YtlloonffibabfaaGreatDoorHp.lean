/- Part Hp of the proof. -/
import Derived.Test.YtlloonffibabfaaGreatDoorHo
import Derived.Test.YtlloonffibabfaaGreatDoorHn
import Derived.Test.YtlloonffibabfaaGreatDoorHl
set_option linter.unusedVariables false
set_option linter.unusedSimpArgs false
namespace Go.Sx
open Cr
set_option maxRecDepth 100000
def tp0:T2:=(((50409081036010254397582280565395455172806087548117244409825859054618338848249007276010662036091550500666936667100,388294699409614699850067541127026805756292582488151539584906167724933363039857846740830486018774821753925289258800),(1783562687007092593856822819529090807876807010524319194736417473690489737966829758002675083480966981715088875437824,3390828246417512166447732301043895929610556065776645908512651049124167682769653906600887756074485505170996639380589),0):T2)
def tp1:T2:=(((3849648561234136229128236456015118187508459349306700117142982124802513097313760388490135241618868152522669791958282,887663195958094006123011947229649114477438715045071654680055865408087316821492991398032022001010836875626186674208),(1446109858452320975031919604065181331114363688265340958601093205544815705324675105655250061400865971473760803154508,923934852136222213199945215775404170535117099870559625238156905044524301534603998108252489277645995129241325079785),0):T2)
def tp2:T2:=(((987384558477878995128928356654626411800977847814019212074459420582976280293967728653434281266371245634168762794236,2872884364901477600310530952575248460084746387094322945255642892939464495147215261365817401104357635705548815829354),(1447016739356638693525215684803524353000414737217188368867089039075349991335453483990254977046887333679205114277977,2297611079884679472279271635463943612540174894727230279916900796574271944374913240237257322529223571949306936904892),0):T2)
def tp3:T2:=(((2025416607097096518895569952346523912479280445844664616568950472682636093766785370716690488955215732547967497861231,1349268981216926166795624705971877742398577970362807732202496482999670605700136156700977049684932872234832204239502),(3316956558878270047782462538853354363738032070951437461191066642914281745489535840656424869451472502192976657673032,1954217357033568452481668616368830237475002615796797712679469176561434310158724071861550443209903603493627493298725),0):T2)
def tp4:T2:=(((3261825565008513099297022390859114282407836895976536846934292186954455798057974346703556529710445238175117927206254,2411398852486348614773836995547174531941696058728418656582177824215477638509939038112024256068765115899789535366477),(3433936231237380973170764581432472909692055611891289879664679699574819272437341021302962615427263384520490977695271,735585986026728072731514966686151952368268720558546697539650887757457498244394865499039833637955824184168542329713),0):T2)
def Zs0:T2:=(((1925194753105624810758042276580226345982907983863088809975504153006270200319436440646544779448483542901783919447722,1626568527196532799364993470969288825659257235691182105602699526208758253477091565895311814235890415034293402448819),(1885269279925387971523821738966664087692727652242117040360756178609752673765894136507009150178483888505242801530717,2964968881423896993334608883912853745150322761512731950607041817228922541337898598597252008163799839321162764092880),0):T2)
def Zr4:T2:=(((3302811696236693048817432710937200207154146062888472244124401231088541568825880779436480055488906969507825521497988,2159161761998572029827115715135251648516413537530764144546098409415901214338605707709859368308445700024446995204964),(3084136792040208093640004775934418904817457055613940701999153766308698737682749754956399503440236045410722220675886,2482067338006821685020478301241952279714252881578747919736574837756432066980247693278695086668098742100717291925959),0):T2)
def Zsp:T2:=(((2883374649928921744323720477259564593312756351175819485523207385458365552763940148330981291998996573950862067009495,3166484509383267161345926971022370091406240114318282595593968509944861138582852559856566459811096022328051212511179),(2489113983517164029801859255377047135595498357961586600532019967137979975281257688564944909185510458005148714780186,3530713190565505869909638026729681004468084193621737294414964341411212066415416447965803238404140415084129860766608),0):T2)
def Ztr:T2:=(((1958017204391899394539162206591781961608870984938316392030853326152268775835027896430372983811689995677676747072868,1850899225844837626114930600540447784016769379102227377138527684896245565298183789770612318797852436809847033533128),(3549189715319475481505954873730039732689001728833162721160667820008080898270551733561365056729699778229377900374329,1117799966292378788191095704713928606489233268759411421778676807931524363726677372794429415557243625873561317911780),0):T2)
def okT(t:T2):Bool:=decide (t.2.2=0)&&decide (((0<=t.1.1/\t.1.1<bP)/\(0<=t.1.2/\t.1.2<bP))/\((0<=t.2.1.1/\t.2.1.1<bP)/\(0<=t.2.1.2/\t.2.1.2<bP)))&&decide (R2.md (R2.mul t.2.1 t.2.1)=R2.md (Ya t.1))
theorem Uf{t:T2}(h:okT t=true):t.2.2=0/\Qa7 t:=by
 unfold okT at h;simp only[Oo,decide_eq_true_eq]at h;obtain⟨⟨h0,h1⟩,h2⟩:=h;exact⟨h0,⟨h1.1,h1.2⟩,.inl h0,(Qdt h0).2 ⟨⟨⟨h1.1.1.2,h1.1.2.2⟩,h1.2.1.2,h1.2.2.2⟩,h2⟩⟩
def zT(t:T2)(k n:Nat):Bool:=R2.isz (W5 R2 (rsU t) k n).z
theorem Qrv{t:T2}(h:okT t=true){k n:Nat}(hn:n<2^k):zT t k n=true↔Ml (0:F2) (z2 (4,4)) n (pt2 t) .O:=by
 have hc:=(Uf h).2;obtain⟨B,j,m⟩:=Qg4 ph2 ns2 (B6 hc) (Xy hc) k n hn;constructor
 ·intro hz;cases B with
  |O=>exact m
  |P x y=>exact absurd (Qeg.2 hz) j.1
 ·intro hm;have:=Wt m hm;subst this;exact Qeg.1 j
theorem Qlr{t:T2}{k l N:Nat}(hl:Np.isP l)(h:(okT t&&zT t k l)=true)(hk:l<2^k)(hN:Ml (0:F2) (z2 (4,4)) N (pt2 t) .O):l∣N:=by
 simp only[Oo]at h;obtain⟨h0,hc⟩:=Uf h.1;refine Zu6 ns2 (Xy hc) hl ((Qrv h.1 hk).1 h.2) hN fun e=>?_
 unfold pt2 at e;rw[if_pos h0]at e;cases e
def Zva(l:Nat)(q r:T2):Bool:=(List.range l).all fun i=>(List.range l).all fun j=>(i==0&&j==0) || !R2.isz (Wo R2 (W5 R2 (rsU q) 5 i) (W5 R2 (rsU r) 5 j)).z
theorem Qxw{l:Nat}{q r:T2}(hl:l<=32)(hq:okT q=true)(hr:okT r=true)(h:Zva l q r=true):∀i j,i<l->j<l->Cl (0:F2) (z2 (4,4)) (rp (pt2 q) (pt2 r) i j) []->i=0/\j=0:=by
 intro i j hi hj hc;have h1:=Ms.1 (Ms.1 h i (M3.2 hi)) j (M3.2 hj);have cq:=(Uf hq).2;have cr:=(Uf hr).2;obtain⟨B,jB,mB⟩:=Qg4 ph2 ns2 (B6 cq) (Xy cq) 5 i (by omega);obtain⟨D,jD,mD⟩:=Qg4 ph2 ns2 (B6 cr) (Xy cr) 5 j (by omega);obtain⟨S,jS,s,oS⟩:=Qkj ph2 jB jD mB.2 mD.2;have e1:Cl (0:F2) (z2 (4,4)) [S] (rp (pt2 q) (pt2 r) i j):=Zn (Vq (Qgi ns2 s mB.2 mD.2 oS)) (Zn (B7 [D] mB.1) (Qgw _ mD.1));have e2:S=.O:=Qf6 (Zn e1 (Zn hc (Vq (Qpp [])))) oS trivial;subst e2;have hz:=Qeg.1 jS;rw[hz]at h1;simp only[Oag,Oar,Oo,beq_iff_eq]at h1;exact h1
theorem t13:(okT Zs0&&okT Zr4&&zT Zs0 5 13&&zT Zr4 5 13&&Zva 13 Zs0 Zr4)=true:=by decide +kernel
theorem t23:(okT Zsp&&okT Ztr&&zT Zsp 5 23&&zT Ztr 5 23&&Zva 23 Zsp Ztr)=true:=by decide +kernel
theorem c0:(okT tp0&&zT tp0 12 2713)=true:=by decide +kernel
theorem c1:(okT tp1&&zT tp1 14 11953)=true:=by decide +kernel
theorem c2:(okT tp2&&zT tp2 18 262069)=true:=by decide +kernel
theorem c3:(okT tp3&&zT tp3 448 402096035359507321594726366720466575392706800671181159425656785868777272553337714697862511267018014931937703598282857976535744623203249)=true:=by decide +kernel
theorem c4:(okT tp4&&zT tp4 256 Np.nG)=true:=by decide +kernel
theorem Zpr(n:Nat){α:Type}(f:Nat->α)(inj:∀i j,i<n->j<n->f i=f j->i=j):((List.range n).map f).Nodup:=by
 rw[Ka,Hz];exact List.nodup_range.imp_of_mem fun {i j} mi mj hne e=>hne (inj i j (M3.1 mi) (M3.1 mj) e)
theorem Qy9(m:Nat):∀l:List Nat,(l.map fun _=>m).sum=l.length*m
 |[]=>by simp
 |a::l=>by simp only[Mn,List.sum_cons,Ov,Qy9 m l,Nat.succ_mul];omega
theorem Ze0{p:Nat}(hp:(p:Int)=bP){i j i' j':Nat}(h1:i<p)(h2:j<p)(h3:i'<p)(h4:j'<p)(h:z2 ((i:Int),(j:Int))=z2 ((i':Int),(j':Int))):i=i'/\j=j':=by
 obtain⟨q1,q2⟩:=U9.1 h;have q1:(i:Int)%bP=(i':Int)%bP:=q1;have q2:(j:Int)%bP=(j':Int)%bP:=q2;rw[Oy (by omega) (by omega),Oy (by omega) (by omega)]at q1 q2;omega
theorem Zm0{p:Nat}(hp:(p:Int)=bP):∃X:List F2,X.Nodup/\(∀x,x∈X)/\X.length=p*p:=by
 refine⟨(List.range p).flatMap fun i:Nat=>(List.range p).map fun j:Nat=>z2 ((i:Int),(j:Int)),?_,?_,?_⟩
 ·rw[Ka,List.pairwise_flatMap];refine⟨fun i mi=>?_,?_⟩
  ·rw[<- Ka];exact Zpr p _ fun j j' hj hj' e=>(Ze0 hp (M3.1 mi) hj (M3.1 mi) hj' e).2
  ·refine List.nodup_range.imp_of_mem fun {i i'} mi mi' hne u hu v hv e=>?_
   obtain⟨j,mj,rfl⟩:=Mx.1 hu;obtain⟨j',mj',rfl⟩:=Mx.1 hv;exact hne (Ze0 hp (M3.1 mi) (M3.1 mj) (M3.1 mi') (M3.1 mj') e).1
 ·intro x;refine Quotient.inductionOn x fun x=>?_
  have l1:=Zo (x:=x.1) Q9;have l2:=Zo (x:=x.2) Q9;refine Hm.2 ⟨(x.1%bP).toNat,M3.2 (by omega),Mx.2 ⟨(x.2%bP).toNat,M3.2 (by omega),?_⟩⟩;refine U9.2 ⟨?_,?_⟩
  ·show(((x.1%bP).toNat:Nat):Int)%bP=x.1%bP;rw[Kg l1.1];exact Za _
  ·show(((x.2%bP).toNat:Nat):Int)%bP=x.2%bP;rw[Kg l2.1];exact Za _
 ·rw[List.length_flatMap];simp only[O8,Hh];rw[Qy9,Hh]
def hR2:Nat:=13*13*(23*23)*2713*11953*262069*402096035359507321594726366720466575392706800671181159425656785868777272553337714697862511267018014931937703598282857976535744623203249*Np.nG
theorem dv2{N:Nat}(h1:13*13∣N)(h2:23*23∣N)(h3:2713∣N)(h4:11953∣N)(h5:262069∣N)(h6:402096035359507321594726366720466575392706800671181159425656785868777272553337714697862511267018014931937703598282857976535744623203249∣N)(h7:Np.nG∣N):hR2∣N :=
 Nat.Coprime.mul_dvd_of_dvd_of_dvd (by decide +kernel) (Nat.Coprime.mul_dvd_of_dvd_of_dvd (by decide +kernel) (Nat.Coprime.mul_dvd_of_dvd_of_dvd (by decide +kernel) (Nat.Coprime.mul_dvd_of_dvd_of_dvd (by decide +kernel) (Nat.Coprime.mul_dvd_of_dvd_of_dvd (by decide +kernel) (Nat.Coprime.mul_dvd_of_dvd_of_dvd (by decide +kernel) h1 h2) h3) h4) h5) h6) h7
theorem sz2:2*(bP.toNat*bP.toNat)+1<2*hR2:=by decide +kernel
theorem Zyz{A:Pn F2}(hA:A.on 0 (z2 (4,4))):Ml (0:F2) (z2 (4,4)) hR2 A .O:=by
 have hpI:((bP.toNat:Nat):Int)=bP:=Kg (H9 Q9);have hsz:=sz2;generalize bP.toNat=p at hpI hsz;obtain⟨X,n1,n2,n3⟩:=Zm0 hpI;obtain⟨L,s,h1,h2,h3,h4,h5⟩:=Zks (a:=(0:F2)) (b:=z2 (4,4)) n1 n2;have hM:∀ {B:Pn F2},B.on 0 (z2 (4,4))->Ml (0:F2) (z2 (4,4)) L.length B .O:=fun hB=>Zac ns2 h1 h2 h3 hB
 have hle:=Zjb (fun x=>(h5 x).1) X;have d13:13*13∣L.length:=by
  have t:=t13;simp only[Oo]at t;obtain⟨⟨⟨⟨a,b⟩,c⟩,d⟩,e⟩:=t;exact Zw2 ns2 (Xy (Uf a).2) (Xy (Uf b).2) (by decide) ((Qrv a (by decide)).1 c) ((Qrv b (by decide)).1 d) (Qxw (by decide) a b e) h1 h2 h3
 have d23:23*23∣L.length:=by
  have t:=t23;simp only[Oo]at t;obtain⟨⟨⟨⟨a,b⟩,c⟩,d⟩,e⟩:=t;exact Zw2 ns2 (Xy (Uf a).2) (Xy (Uf b).2) (by decide) ((Qrv a (by decide)).1 c) ((Qrv b (by decide)).1 d) (Qxw (by decide) a b e) h1 h2 h3
 have on:∀ {t:T2} {k l:Nat},(okT t&&zT t k l)=true->(pt2 t).on 0 (z2 (4,4)):=fun h=>by
  simp only[Oo]at h;exact Xy (Uf h.1).2
 have hd:=dv2 d13 d23 (Qlr Np.p2713 c0 (by decide) (hM (on c0))) (Qlr Np.p11953 c1 (by decide) (hM (on c1))) (Qlr Np.p262069 c2 (by decide) (hM (on c2))) (Qlr Np.p_h c3 (by decide +kernel) (hM (on c3))) (Qlr Np.p_great c4 (by decide +kernel) (hM (on c4)));obtain⟨k,hk⟩:=hd;have hN:L.length=hR2:=by
  have h0:0<L.length:=by omega
  have h6:L.length<=2*(p*p)+1:=by rw[h4];omega
  generalize L.length=N at *
  generalize p*p=q at *
  generalize hR2=r at *
  match k,hk with
  |0,hk=>omega
  |1,hk=>omega
  |k+2,hk =>
   have:r*(k+2)=r*k+2*r:=by rw[Nat.mul_add,Nat.mul_comm r 2]
   have:=Nat.zero_le (r*k);omega
 have:=hM hA;rwa[hN]at this
section
variable {F:Type}[Cr F]
def nm:Nat->F->F
 |0,_=>0
 |n+1,x=>nm n x+x
theorem nm_add(a b:F):∀n,nm n (a+b)=nm n a+nm n b
 |0=>by show(0:F)=0+0;grind
 |n+1=>by show nm n (a+b)+(a+b)=(nm n a+a)+(nm n b+b);rw[nm_add a b n];grind
theorem Qu6(a b:F):∀n,nm n (a*b)=a*nm n b
 |0=>by show(0:F)=a*0;grind
 |n+1=>by show nm n (a*b)+a*b=a*(nm n b+b);rw[Qu6 a b n];grind
theorem Znv(n:Nat):nm n (0:F)=0:=by have:=Qu6 (0:F) 0 n;grind
def Dv(p:Po F):Po F:=⟨fun i=>nm (i+1) (p.1 (i+1)),by
 obtain⟨n,h⟩:=p.2;exact⟨n,fun i hi=>by
  show nm (i+1) (p.1 (i+1))=0;rw[h (i+1) (by omega)];exact Znv _⟩⟩
theorem Qu9{n:Nat}{p:Po F}(h:Wm (n+1) p.1):Wm n (Dv p).1:=fun i hi=>by
 show nm (i+1) (p.1 (i+1))=0;rw[h (i+1) (by omega)];exact Znv _
theorem Ja(p q:Po F):Dv (p+q)=Dv p+Dv q:=Yu fun i=>nm_add _ _ _
theorem Zwn(c:F)(p:Po F)(i:Nat):(Cc c*p).1 i=c*p.1 i:=Qsl (f:=(Cc c).1) (fun i hi=>by match i,hi with|i+1,_=>rfl) p.1 i
theorem Zmq(c:F):Dv (Cc c)=0:=Yu fun i=>Znv _
theorem Zpq(c:F)(p:Po F):Dv (Cc c*p)=Cc c*Dv p:=Yu fun i=>by
 rw[Zwn];show nm (i+1) ((Cc c*p).1 (i+1))=c*nm (i+1) (p.1 (i+1));rw[Zwn,Qu6]
theorem Zno(s:Po F):Dv (Xx*s)=s+Xx*Dv s:=Yu fun i=>by
 match i with
 |0 =>
  show(0:F)+(Xx*s).1 1=s.1 0+(Xx*Dv s).1 0;rw[Qc0,Qh5];show(0:F)+s.1 0=s.1 0+0;grind
 |i+1 =>
  show nm (i+1) ((Xx*s).1 (i+2))+(Xx*s).1 (i+2)=s.1 (i+1)+(Xx*Dv s).1 (i+1);rw[Qc0,Qc0];show nm (i+1) (s.1 (i+1))+s.1 (i+1)=s.1 (i+1)+nm (i+1) (s.1 (i+1));grind
theorem Zik{n:Nat}(p:Po F)(h:Wm (n+1) p.1):∃s:Po F,Wm n s.1/\p=Cc (p.1 0)+Xx*s:=by
 obtain⟨s,hs,hd⟩:∃s:Po F,(∀i,s.1 i=p.1 (i+1))/\Wm n s.1:=⟨⟨fun i=>p.1 (i+1),n,fun i hi=>h (i+1) (by omega)⟩,fun i=>rfl,fun i hi=>h (i+1) (by omega)⟩
 refine⟨s,hd,Yu fun i=>?_⟩
 match i with
 |0 =>
  show p.1 0=p.1 0+(Xx*s).1 0;rw[Qh5];show p.1 0=p.1 0+0;grind
 |i+1 =>
  show p.1 (i+1)=0+(Xx*s).1 (i+1);rw[Qc0,hs];show p.1 (i+1)=0+p.1 (i+1);grind
theorem Zra{p:Po F}(h:Wm 0 p.1):p=Cc (p.1 0):=Yu fun i=>by
 match i with
 |0=>rfl
 |i+1=>exact h (i+1) (by omega)
theorem Zeg(q:Po F):∀(n:Nat) (p:Po F),Wm n p.1->Dv (p*q)=Dv p*q+p*Dv q
 |0,p,h=>by
  rw[Zra h,Zpq,Zmq];grind
 |n+1,p,h=>by
  obtain⟨s,hs,e⟩:=Zik p h;generalize p.1 0=c at e;subst e;have e:(Cc c+Xx*s)*q=Cc c*q+Xx*(s*q):=by grind
  rw[e,Ja,Ja,Zmq,Zno,Zno,Zpq,Zeg q n s hs];grind
theorem Qdo(p q:Po F):Dv (p*q)=Dv p*q+p*Dv q:=by
 obtain⟨n,h⟩:=p.2;exact Zeg q n p h
def J8{α:Type}[Cr α](a:α):Nat->α
 |0=>1
 |n+1=>a*J8 a n
theorem Zb5:Dv (1:Po F)=0:=Yu fun i=>Znv _
theorem Zkk(g:Po F):∀n,g*Dv (J8 g n)=Cc (nm n 1)*(Dv g*J8 g n)
 |0=>by
  show g*Dv 1=Cc 0*(Dv g*1)
  rw[Zb5,Qqj];grind
 |n+1=>by
  show g*Dv (g*J8 g n)=Cc (nm n 1+1)*(Dv g*(g*J8 g n))
  have h:=Zkk g n;rw[Qdo,W0,Qwc];grind
theorem Za5(p:Po F):Dv (-p)=-Dv p:=by
 have h:=Ja p (-p);have h0:p + -p=(0:Po F):=by grind
 rw[h0,<- Qqj,Zmq]at h
 grind
theorem Qu8(x:F)(p:Po F):∀n,Xj x (J8 p n)=J8 (Xj x p) n
 |0=>Qr7 x
 |n+1=>(Zq x _ _).trans (congrArg _ (Qu8 x p n))
def Pp(pt:Nat->F):Nat->Po F
 |0=>1
 |n+1=>(Xx + -Cc (pt n))*Pp pt n
end
section
variable {F:Type}[Fd F]
theorem Qhr:dg 1 (Xx:Po F):=⟨fun i hi=>by match i,hi with|i+2,_=>rfl,Fd.one_ne⟩
theorem Zcd:dg 0 (1:Po F):=⟨fun i hi=>by match i,hi with|i+1,_=>rfl,Fd.one_ne⟩
theorem Zxy(c:F):dg 1 (Xx + -Cc c:Po F):=by
 refine⟨fun i hi=>?_,?_⟩
 ·match i,hi with
  |i+2,_=>show(0:F) + -0=0;grind
 ·show(1:F) + -0≠0;have:=Fd.one_ne (α:=F);intro hc;refine this ?_;show(1:F)=0
  grind
theorem Qv1{p:Po F}{d:Nat}(h:dg d p):∀n,dg (d*n) (J8 p n)
 |0=>Zcd
 |n+1=>by
  have:=Y7 h (Qv1 h n);rw[show d*(n+1)=d+d*n from by rw[Nat.mul_add];omega];exact this
theorem Zrj(pt:Nat->F):∀n,dg n (Pp pt n)
 |0=>Zcd
 |n+1=>by
  have:=Y7 (Zxy (pt n)) (Zrj pt n);rwa[Nat.add_comm 1 n]at this
theorem Zpv{pt:Nat->F}{x:F}:∀n,(∀i,i<n->pt i≠x)->Xj x (Pp pt n)≠0
 |0,_=>by
  show Xj x 1≠0;rw[Qr7];exact Fd.one_ne
 |n+1,h=>by
  show Xj x ((Xx + -Cc (pt n))*Pp pt n)≠0;rw[Zq,Z5,Qb0,Ud,Wp];refine Xb (fun hc=>h n (by omega) (by grind)) (Zpv n fun i hi=>h i (by omega))
theorem Qvb{pt:Nat->F}{P:Po F}:∀n,(∀i j,i<n->j<n->pt i=pt j->i=j)->(∀i,i<n->Xj (pt i) P=0)->∃q,P=Pp pt n*q
 |0,_,_=>⟨P,by show P=1*P;grind⟩
 |n+1,hi,hv=>by
  obtain⟨q,hq⟩:=Qvb n (fun i j h1 h2=>hi i j (by omega) (by omega)) (fun i h=>hv i (by omega));have h1:=hv n (by omega);rw[hq,Zq]at h1;have h2:=(W3 h1).resolve_left (Zpv n fun i h hc=>by
   have:=hi i n (by omega) (by omega) hc;omega)
  obtain⟨r,hr⟩:=Qq7 (pt n) q;rw[h2,Qqj]at hr;exact⟨r,by show P=(Xx + -Cc (pt n))*Pp pt n*r;grind⟩
theorem Qqm{p k:Nat}{T S:Po F}(hT:dg p T)(h:Wm (p+k) (T*S).1):Wm k S.1:=by
 by_cases hS:S=0
 ·rw[hS];exact fun _ _=>rfl
 ·obtain⟨m,hm⟩:=Bi hS;have:=Qrx (Y7 hT hm) h;exact Q8 hm.1 (by omega)
theorem Zg{m n:Nat}{p q:Po F}(hp:Wm m p.1)(hq:Wm n q.1):Wm (m+n) (p*q).1:=(Qr0 hq m _ hp).1
theorem Z6{n:Nat}{p q:Po F}(hp:Wm n p.1)(hq:Wm n q.1):Wm n (p+q).1:=Qen hp hq
theorem Qa6{n:Nat}{p:Po F}(hp:Wm n p.1):Wm n (-p).1:=Qzq hp
theorem Zpm(c:F):Wm 0 (Cc c).1:=fun i hi=>by match i,hi with|i+1,_=>rfl
theorem st2{α:Type}[Cr α]{T S S' g q g1 q1 g2:α}(h:-1*S+T*S'=(0+0)*(g*q)+(1+1)*(g1*q+g*q1)+g2)(hS:(1+1)*(g*q1)+g1*q=S):T*S'=(1+1)*S+g1*q+g2:=by grind
theorem st3{α:Type}[Cr α]{T S S' g q g1 g2:α}(e1:T*S=(1+1)*(g*q)+g1)(e2:T*S'=(1+1)*S+g1*q+g2):T*((1+1)*(g*S') + -(g1*S))=(1+1)*((1+1)*(g*S)) + -(g1*g1 + -((1+1)*(g*g2))):=by grind
theorem st4{α:Type}[Cr α]{T u u' S S' g g1 g2 g3:α}(h:-1*u+T*u'=(0+0)*((1+1)*(g*S))+(1+1)*((0+0)*(g*S)+(1+1)*(g1*S+g*S')) + -(g2*g1+g1*g2 + -((0+0)*(g*g2)+(1+1)*(g1*g2+g*g3)))):T*u' + -u=(1+1)*(1+1)*(g1*S+g*S')+(1+1)*(g*g3):=by grind
theorem st5{α:Type}[Cr α]{T u u' S S' g g1 g2 g3:α}(e3:T*u=(1+1)*((1+1)*(g*S)) + -(g1*g1 + -((1+1)*(g*g2))))(hu:(1+1)*(g*S') + -(g1*S)=u)(e4:T*u' + -u=(1+1)*(1+1)*(g1*S+g*S')+(1+1)*(g*g3)):T*((1+1)*(g*u') + -((1+1+1)*(g1*u)))=(1+1+1+1+1+1)*(g*u)+(1+1+1)*(g1*(g1*g1 + -((1+1)*(g*g2))))+(1+1+1+1)*(g*g*g3):=by grind
theorem st6{α:Type}[Cr α]{T u g g1 g2 g3:α}(e:T*0=(1+1+1+1+1+1)*(g*u)+(1+1+1)*(g1*(g1*g1 + -((1+1)*(g*g2))))+(1+1+1+1)*(g*g*g3)):(1+1+1+1+1+1)*(g*u)=-((1+1+1+1)*(g*g*g3))+(1+1+1+1+1+1)*(g*g1*g2) + -((1+1+1)*(g1*(g1*g1))):=by grind
theorem step{m p:Nat}(hp:p=2*m+1)(h15:15<p)(ch:nm p (1:F)=0)(pt:Nat->F)(inj:∀i j,i<p->j<p->pt i=pt j->i=j)(fer:∀i,i<p->J8 (pt i) p=pt i){g:Po F}(hg:dg 6 g)(hn:∀i,i<p->J8 (Xj (pt i) g) m=-1) :
  ∃u:Po F,Wm 9 u.1/\(1+1+1+1+1+1)*(g*u)=-((1+1+1+1)*(g*g*Dv (Dv (Dv g))))+(1+1+1+1+1+1)*(g*Dv g*Dv (Dv g)) + -((1+1+1)*(Dv g*(Dv g*Dv g))):=by
 obtain⟨q0,h1⟩:=Qvb (P:=J8 g m+1) p inj fun i hi=>by rw[Z5,Qu8,hn i hi,Qr7];grind
 obtain⟨c0,h2⟩:=Qvb (P:=J8 Xx p + -Xx) p inj fun i hi=>by rw[Z5,Ud,Qu8,Qb0,fer i hi];grind
 generalize hT:J8 (Xx:Po F) p + -Xx=T at h2;have dT:dg p T:=by
  have hx:=Qv1 (Qhr (F:=F)) p;rw[Nat.one_mul]at hx;rw[<- hT];refine⟨Z6 hx.1 (Qa6 (Q8 Qhr.1 (by omega))),?_⟩;show(J8 (Xx:Po F) p).1 p + -((Xx:Po F).1 p)≠0;rw[Qhr.1 p (by omega)];intro hc;refine hx.2 ?_;show _=(0:F)
  have hc:(J8 (Xx:Po F) p).1 p + -0=0:=hc
  grind
 have DT:Dv T=-1:=by
  have hX:Dv (Xx:Po F)=1:=by
   have h:=Zno (1:Po F);rw[Zb5,show(Xx*1:Po F)=Xx from by grind]at h
   grind
  have h:=Zkk (Xx:Po F) p;rw[ch,Qqj]at h;have h0:Dv (J8 (Xx:Po F) p)=0:=Classical.byContradiction fun hc=>Qic (Qxv (Qhr (F:=F))) hc (by grind)
  rw[<- hT,Ja,Za5,h0,hX];grind
 have hc0:c0≠0:=fun h=>Qxv dT (by rw[h2,h];grind)
 obtain⟨k,hk⟩:=Bi hc0;have hk0:k=0:=by
  have:=Y7 (Zrj pt p) hk;rw[<- h2]at this;have:=Qxt this dT;omega
 subst hk0;obtain⟨c',hc'⟩:=Fd.inv_ex (c0.1 0) hk.2;have hcc:c0*Cc c'=1:=by
  rw[Zra hk.1,<- X6,show c0.1 0*c'=(1:F)from hc',Qwc]
 have h3:J8 g m+1=T*(Cc c'*q0):=by grind
 generalize Cc c'*q0=q at h3;clear h1 h2 hcc hT hn fer inj hc0;have d1:Wm (6*m) (J8 g m+1).1:=Z6 (Qv1 hg m).1 (Q8 Zcd.1 (by omega));have dq:Wm (2*p-3) q.1:=Qqm dT (by rw[<- h3];exact Q8 d1 (by omega));have hY:=Zkk g m;have hm:Cc (nm m (1:F))+Cc (nm m 1)=-1:=by
  rw[<- W0,<- Qwc,<- Qbo];congr 1;have e:nm p (1:F)=nm m 1+nm m 1+1:=by
   rw[hp];have:∀a b:Nat,nm (a+b) (1:F)=nm a 1+nm b 1:=fun a b=>by
    induction b with
    |zero=>show nm a (1:F)=nm a 1+0;grind
    |succ b ih=>show nm (a+b) (1:F)+1=nm a 1+(nm b 1+1);rw[ih];grind
   show nm (2*m) (1:F)+1=_;rw[show 2*m=m+m from by omega,this]
  grind
 have hY':Dv (J8 g m)=-q+T*Dv q:=by
  have h:=congrArg Dv h3;rw[Ja,Zb5,Qdo,DT]at h
  grind
 have e1:T*((1+1)*(g*Dv q)+Dv g*q)=(1+1)*(g*q)+Dv g:=by grind
 generalize hS:(1+1)*(g*Dv q)+Dv g*q=S at e1;have dg1:Wm 5 (Dv g).1:=Qu9 hg.1;have dg2:Wm 4 (Dv (Dv g)).1:=Qu9 dg1;have dg3:Wm 3 (Dv (Dv (Dv g))).1:=Qu9 dg2;have dn:∀ {n:Nat} {a:Po F},Wm n a.1->Wm n ((1+1)*a).1:=fun {n a} h=>by
  have:=Zg (Z6 (Zcd (F:=F)).1 Zcd.1) h;rwa[Nat.zero_add]at this
 have dS:Wm (p+3) S.1:=Qqm dT (by
  rw[e1];exact Z6 (dn (Q8 (Zg hg.1 dq) (by omega))) (Q8 dg1 (by omega)))
 have e2:T*Dv S=(1+1)*S+Dv g*q+Dv (Dv g):=by
  have h:=congrArg Dv e1;rw[Qdo,DT,Ja,Qdo (1+1),Ja (1:Po F) 1,Zb5,Qdo g q]at h;exact st2 h hS
 have e3:T*((1+1)*(g*Dv S) + -(Dv g*S))=(1+1)*((1+1)*(g*S)) + -(Dv g*Dv g + -((1+1)*(g*Dv (Dv g)))):=st3 e1 e2;generalize hu:(1+1)*(g*Dv S) + -(Dv g*S)=u at e3;have du:Wm 9 u.1:=Qqm dT (by
  rw[e3];exact Z6 (dn (dn (Q8 (Zg hg.1 dS) (by omega)))) (Qa6 (Z6 (Q8 (Zg dg1 dg1) (by omega)) (Qa6 (dn (Q8 (Zg hg.1 dg2) (by omega)))))))
 refine⟨u,du,?_⟩;have e4:T*Dv u + -u=(1+1)*(1+1)*(Dv g*S+g*Dv S)+(1+1)*(g*Dv (Dv (Dv g))):=by
  have h:=congrArg Dv e3;rw[Qdo,DT,Ja,Za5,Ja,Za5,Qdo (1+1),Qdo (1+1),Qdo (1+1),Ja (1:Po F) 1,Zb5,Qdo g S,Qdo (Dv g) (Dv g),Qdo g (Dv (Dv g))]at h;exact st4 h
 have e5:T*((1+1)*(g*Dv u) + -((1+1+1)*(Dv g*u)))=(1+1+1+1+1+1)*(g*u)+(1+1+1)*(Dv g*(Dv g*Dv g + -((1+1)*(g*Dv (Dv g)))))+(1+1+1+1)*(g*g*Dv (Dv (Dv g))):=st5 e3 hu e4;have z:(1+1)*(g*Dv u) + -((1+1+1)*(Dv g*u))=0:=by
  refine Classical.byContradiction fun hc=>?_
  obtain⟨k,hk⟩:=Bi hc;have h6:=Y7 dT hk;rw[e5]at h6;have o1:Wm 0 (1:Po F).1:=Zcd.1;have:=Qrx h6 (n:=15) (Z6 (Z6 (Q8 (Zg (Z6 (Z6 (Z6 (Z6 (Z6 o1 o1) o1) o1) o1) o1) (Zg hg.1 du)) (by omega)) (Q8 (Zg (Z6 (Z6 o1 o1) o1) (Zg dg1 (Z6 (Zg dg1 dg1) (Qa6 (dn (Q8 (Zg hg.1 dg2) (by omega))))))) (by omega))) (Q8 (Zg (Z6 (Z6 (Z6 o1 o1) o1) o1) (Zg (Zg hg.1 hg.1) dg3)) (by omega)));omega
 rw[z]at e5;exact st6 e5
end
theorem Zun{A B:Int}(h:sqV (A*A+B*B)):Y0 (A,B):=by
 obtain⟨H,hH⟩:∃H:Int,(2*H)%bP=1:=⟨(bP+1)/2,by decide⟩
 have hs:Ue (A*A+B*B)*Ue (A*A+B*B)%bP=(A*A+B*B)%bP:=h;generalize Ue (A*A+B*B)=s at hs;by_cases hB:B%bP=0
 ·by_cases hA:sqV A
  ·refine⟨(Ue A,0),?_,?_⟩
   ·show(Ue A*Ue A-0*0)%bP=A%bP;rw[Oac,Int.sub_zero];exact hA
   ·show(Ue A*0+0*Ue A)%bP=B%bP;rw[hB,Oac,Oab];rfl
  ·have hn:=Quo hA;refine⟨(0,Ue (-A)),?_,?_⟩
   ·show(0*0-Ue (-A)*Ue (-A))%bP=A%bP;refine Yl ?_;have:=Qbv (show Ue (-A)*Ue (-A)%bP=(-A)%bP from hn);exact Qfp (a:=-1) (b:=0) this this (by grind)
   ·show(0*Ue (-A)+Ue (-A)*0)%bP=B%bP;rw[hB,Oac,Oab];rfl
 ·have key:∀s:Int,s*s%bP=(A*A+B*B)%bP->sqV ((A+s)*H)->Y0 (A,B):=fun s hs hq=>by
   have hx:Ue ((A+s)*H)*Ue ((A+s)*H)%bP=(A+s)*H%bP:=hq;generalize Ue ((A+s)*H)=x at hx;refine⟨(x,B*Bh (x+x)),Qt1 (i:=Bh (x+x)) hH hs hB hx (fun hi=>U6 hi) rfl⟩
  by_cases hq:sqV ((A+s)*H)
  ·exact key s hs hq
  ·have hn:=Quo hq;refine key (-s) (by rw[<- hs];congr 1;grind) ?_;have hc:Ue (-((A+s)*H))*Ue (-((A+s)*H))%bP=(-((A+s)*H))%bP:=hn;generalize Ue (-((A+s)*H))=c at hc;have hc0:¬c%bP=0:=fun h0=>hq (Zlw (by
    have h1:=Qbv hc;have:(c*c)%bP=0:=X4 c h0;exact Qfp (a:=-1) (b:=1) this h1 (by grind)))
   have hi:=U6 hc0;generalize Bh c=i at hi;refine Qyi (d:=B*H*i) (Yl ?_);have h1:=Qbv hc;have h2:=Qbv (x:=c*i) (y:=1) (by rw[hi];rfl);have h3:=Qbv hs;have h4:((A + -s)*H*(c*c)-B*H*(B*H))%bP=0:=Qfp (a:=(A + -s)*H) (b:=H*H) h1 h3 (by grind);exact Qfp (a:=i*i) (b:=-((A + -s)*H*(c*i+1))) h4 h2 (by grind)
abbrev Z:=Zp bP
def ph(a:Int):Po Z:=Cc (zp bP a)
theorem Zr8(a b:Int):ph (a+b)=ph a+ph b:=(congrArg Cc (Qpe bP a b)).trans (W0 _ _)
theorem Zkj:∀n:Nat,ph (n:Int)=Ql2 n
 |0=>Qqj
 |n+1=>by
  rw[Zgs,<- Zkj n];show ph ((n:Int)+1)=ph n+1;rw[Zr8];exact congrArg _ Qwc
theorem Qox(n:Nat):ph (no_index (OfNat.ofNat n:Int))=(OfNat.ofNat n:Po Z):=(Zkj n).trans (Qta n).symm
theorem Zh0(a:Int):Dv (ph a)=0:=Zmq _
theorem Zkh:Dv (Xx:Po Z)=1:=by
 have h:=Zno (1:Po Z);rw[Zb5,show(Xx*1:Po Z)=Xx from by grind]at h
 grind
def gN(b:Int):Po Z:=Xx*Xx*Xx*Xx*Xx*Xx+(ph 3*ph b*ph b*(Xx*Xx*Xx*Xx)+(ph 8*(Xx*Xx*Xx)+((ph 3*ph b*ph b*ph b*ph b+ph 24*ph b)*(Xx*Xx)+(-(ph 24*ph b*ph b)*Xx+(ph b*ph b*ph b*ph b*ph b*ph b + -(ph 8*ph b*ph b*ph b)+ph 32)))))
theorem Zk4(a:Int):∀n,J8 (zp bP a) n=zp bP (a^n)
 |0=>by rw[Oal];rfl
 |n+1=>by
  show zp bP a*J8 (zp bP a) n=_;rw[Zk4 a n,<- Be,L3,M0]
theorem Zq0:∀n:Nat,nm n (1:Z)=zp bP n
 |0=>rfl
 |n+1=>by
  show nm n (1:Z)+1=_;rw[Zq0 n];rfl
theorem Zuw{a b:Nat}(ha:(a:Int)<bP)(hb:(b:Int)<bP)(h:zp bP a=zp bP b):a=b:=by
 have:=Qbr.1 h;rw[Oy (by omega) ha,Oy (by omega) hb]at this;omega
theorem Zfd(x:Z)(a:Int):Xj x (ph a)=zp bP a:=Wp _ _
theorem Zqq(b:Int):dg 6 (gN b):=by
 have h6:=Y7 (Y7 (Y7 (Y7 (Y7 (Qhr (F:=Z)) Qhr) Qhr) Qhr) Qhr) Qhr;have c:∀a:Int,Wm 0 (ph a).1:=fun a=>Zpm _
 have x:=(Qhr (F:=Z)).1
 have low:Wm 4 (ph 3*ph b*ph b*(Xx*Xx*Xx*Xx)+(ph 8*(Xx*Xx*Xx)+((ph 3*ph b*ph b*ph b*ph b+ph 24*ph b)*(Xx*Xx)+(-(ph 24*ph b*ph b)*Xx+(ph b*ph b*ph b*ph b*ph b*ph b + -(ph 8*ph b*ph b*ph b)+ph 32))))).1 :=
  Z6 (Zg (Zg (Zg (c _) (c _)) (c _)) (Zg (Zg (Zg x x) x) x)) (Q8 (m:=3) (Z6 (Zg (c _) (Zg (Zg x x) x)) (Q8 (m:=2) (Z6 (Zg (Z6 (Zg (Zg (Zg (Zg (c _) (c _)) (c _)) (c _)) (c _)) (Zg (c _) (c _))) (Zg x x)) (Q8 (m:=1) (Z6 (Zg (Qa6 (Zg (Zg (c _) (c _)) (c _))) x) (Q8 (m:=0) (Z6 (Z6 (Zg (Zg (Zg (Zg (Zg (c _) (c _)) (c _)) (c _)) (c _)) (c _)) (Qa6 (Zg (Zg (Zg (c _) (c _)) (c _)) (c _)))) (c _)) (by omega))) (by omega))) (by omega))) (by omega))
 refine⟨Z6 h6.1 (Q8 low (by omega)),fun hc=>h6.2 ?_⟩;have e:=low 6 (by omega);have hc:(Xx*Xx*Xx*Xx*Xx*Xx:Po Z).1 6+_=(0:Z):=hc;rw[e]at hc;show(Xx*Xx*Xx*Xx*Xx*Xx:Po Z).1 6=(0:Z)
 have hc:(Xx*Xx*Xx*Xx*Xx*Xx:Po Z).1 6+0=(0:Z):=hc
 grind
theorem Zux(b t:Int):Xj (zp bP t) (gN b)=zp bP ((t*t*t-3*b*b*t+4)*(t*t*t-3*b*b*t+4)+(3*b*(t*t)-b*b*b+4)*(3*b*(t*t)-b*b*b+4)):=by
 unfold gN;simp only[Z5,Zq,Ud,Qb0,Zfd,<- Qpe,<- Be,<- Qvd];congr 1;grind
def rN(b:Int):Po Z:=(ph 2239488*ph b*ph b + -(ph 2239488*ph b*ph b*ph b*ph b*ph b))*(Xx*Xx*Xx*Xx)+(-(ph 4478976*ph b*ph b*ph b)*(Xx*Xx*Xx)+((ph 2985984*ph b + -(ph 14929920*ph b*ph b*ph b*ph b) + -(ph 1492992*ph b*ph b*ph b*ph b*ph b*ph b*ph b))*(Xx*Xx)+((ph 13436928*ph b*ph b*ph b*ph b*ph b)*Xx+(ph 1327104 + -(ph 18911232*ph b*ph b*ph b)+ph 4727808*ph b*ph b*ph b*ph b*ph b*ph b + -(ph 580608*ph b*ph b*ph b*ph b*ph b*ph b*ph b*ph b*ph b)))))
def vN(b:Int):Po Z:=-(ph 47616)+ph 575232*ph b*ph b*ph b + -(ph 1056*ph b*ph b*ph b*ph b*ph b*ph b)+(-(ph 28800*ph b*ph b)+ph 5760*ph b*ph b*ph b*ph b*ph b + -(ph 72*ph b*ph b*ph b*ph b*ph b*ph b*ph b*ph b))*Xx+(-(ph 46080*ph b)+ph 11520*ph b*ph b*ph b*ph b)*(Xx*Xx)+(ph 384 + -(ph 9984*ph b*ph b*ph b) + -(ph 264*ph b*ph b*ph b*ph b*ph b*ph b))*(Xx*Xx*Xx) + -(ph 2592*ph b*ph b)*(Xx*Xx*Xx*Xx)+(-(ph 1152*ph b) + -(ph 360*ph b*ph b*ph b*ph b))*(Xx*Xx*Xx*Xx*Xx) + -(ph 576)*(Xx*Xx*Xx*Xx*Xx*Xx) + -(ph 216*ph b*ph b)*(Xx*Xx*Xx*Xx*Xx*Xx*Xx) + -(ph 48)*(Xx*Xx*Xx*Xx*Xx*Xx*Xx*Xx*Xx)
theorem Zs3(b:Int):Wm 5 (rN b).1:=by
 have c:∀a:Int,Wm 0 (ph a).1:=fun a=>Zpm _
 have k:∀ {p q:Po Z},Wm 0 p.1->Wm 0 q.1->Wm 0 (p*q).1:=fun h h'=>Zg h h'
 have x:=(Qhr (F:=Z)).1;unfold rN
 exact Q8 (m:=4) (Z6 (Q8 (Zg (m:=0) (Z6 (k (k (c _) (c _)) (c _)) (Qa6 (k (k (k (k (k (c _) (c _)) (c _)) (c _)) (c _)) (c _)))) (Zg (Zg (Zg x x) x) x)) (by omega))
  (Z6 (Q8 (Zg (m:=0) (Qa6 (k (k (k (c _) (c _)) (c _)) (c _))) (Zg (Zg x x) x)) (by omega))
  (Z6 (Q8 (Zg (m:=0) (Z6 (Z6 (k (c _) (c _)) (Qa6 (k (k (k (k (c _) (c _)) (c _)) (c _)) (c _)))) (Qa6 (k (k (k (k (k (k (k (c _) (c _)) (c _)) (c _)) (c _)) (c _)) (c _)) (c _)))) (Zg x x)) (by omega))
  (Z6 (Q8 (Zg (m:=0) (k (k (k (k (k (c _) (c _)) (c _)) (c _)) (c _)) (c _)) x) (by omega))
  (Q8 (m:=0) (Z6 (Z6 (Z6 (c _) (Qa6 (k (k (k (c _) (c _)) (c _)) (c _)))) (k (k (k (k (k (k (c _) (c _)) (c _)) (c _)) (c _)) (c _)) (c _))) (Qa6 (k (k (k (k (k (k (k (k (k (c _) (c _)) (c _)) (c _)) (c _)) (c _)) (c _)) (c _)) (c _)) (c _)))) (by omega)))))) (by omega)
theorem Zr2(b t:Int):Xj (zp bP t) (rN b)=zp bP ((2239488*b*b-2239488*b*b*b*b*b)*(t*t*t*t)-4478976*b*b*b*(t*t*t)+(2985984*b-14929920*b*b*b*b-1492992*b*b*b*b*b*b*b)*(t*t)+13436928*b*b*b*b*b*t+(1327104-18911232*b*b*b+4727808*b*b*b*b*b*b-580608*b*b*b*b*b*b*b*b*b)):=by
 unfold rN;simp only[Z5,Zq,Ud,Qb0,Zfd,<- Qpe,<- Be,<- Qvd];congr 1;grind
theorem Zwf{b:Int}(h:rN b=0):False:=by
 have v:∀t:Int,((2239488*b*b-2239488*b*b*b*b*b)*(t*t*t*t)-4478976*b*b*b*(t*t*t)+(2985984*b-14929920*b*b*b*b-1492992*b*b*b*b*b*b*b)*(t*t)+13436928*b*b*b*b*b*t+(1327104-18911232*b*b*b+4727808*b*b*b*b*b*b-580608*b*b*b*b*b*b*b*b*b))%bP=0:=fun t=>by
  rw[<- Zc6,<- Zr2,h,Qg3]
 have h0:=v 0;have h1:=v 1;have h2:=v (-1);have h3:=v 2;have h4:=v (-2);have e1:(2*(4478976*b*b*b + -(13436928*b*b*b*b*b)))%bP=0:=Qfp (a:=-1) (b:=1) h1 h2 (by grind);have e2:(4*(4*(4478976*b*b*b) + -(13436928*b*b*b*b*b)))%bP=0:=Qfp (a:=-1) (b:=1) h3 h4 (by grind);have e3:(12*4478976*(b*(b*b)))%bP=0:=Qfp (a:=-2) (b:=1) e1 e2 (by grind);have hb:b%bP=0:=by
  have h5:=Ui e3 (by decide);rcases Zaq h5 with h|h
  ·exact h
  ·rcases Zaq h with h|h <;> exact h
 have h6:(1327104:Int)%bP=0:=Qfp (a:=1) (b:=-(-18911232*b*b+4727808*b*b*b*b*b-580608*b*b*b*b*b*b*b*b)) h0 hb (by grind);exact absurd h6 (by decide)
theorem Zu2{α:Type}[Cr α](x b:α):-((1+1+1+1)*((x*x*x*x*x*x+(3*b*b*(x*x*x*x)+(8*(x*x*x)+((3*b*b*b*b+24*b)*(x*x)+(-(24*b*b)*x+(b*b*b*b*b*b + -(8*b*b*b)+32))))))*(x*x*x*x*x*x+(3*b*b*(x*x*x*x)+(8*(x*x*x)+((3*b*b*b*b+24*b)*(x*x)+(-(24*b*b)*x+(b*b*b*b*b*b + -(8*b*b*b)+32))))))*(120*(x*x*x)+(72*b*b*x+48))))+(1+1+1+1+1+1)*((x*x*x*x*x*x+(3*b*b*(x*x*x*x)+(8*(x*x*x)+((3*b*b*b*b+24*b)*(x*x)+(-(24*b*b)*x+(b*b*b*b*b*b + -(8*b*b*b)+32))))))*(6*(x*x*x*x*x)+(12*b*b*(x*x*x)+(24*(x*x)+((6*b*b*b*b+48*b)*x + -(24*b*b)))))*(30*(x*x*x*x)+(36*b*b*(x*x)+(48*x+(6*b*b*b*b+48*b))))) + -((1+1+1)*((6*(x*x*x*x*x)+(12*b*b*(x*x*x)+(24*(x*x)+((6*b*b*b*b+48*b)*x + -(24*b*b)))))*((6*(x*x*x*x*x)+(12*b*b*(x*x*x)+(24*(x*x)+((6*b*b*b*b+48*b)*x + -(24*b*b)))))*(6*(x*x*x*x*x)+(12*b*b*(x*x*x)+(24*(x*x)+((6*b*b*b*b+48*b)*x + -(24*b*b))))))))=(x*x*x*x*x*x+(3*b*b*(x*x*x*x)+(8*(x*x*x)+((3*b*b*b*b+24*b)*(x*x)+(-(24*b*b)*x+(b*b*b*b*b*b + -(8*b*b*b)+32))))))*(-(47616)+575232*b*b*b + -(1056*b*b*b*b*b*b)+(-(28800*b*b)+5760*b*b*b*b*b + -(72*b*b*b*b*b*b*b*b))*x+(-(46080*b)+11520*b*b*b*b)*(x*x)+(384 + -(9984*b*b*b) + -(264*b*b*b*b*b*b))*(x*x*x) + -(2592*b*b)*(x*x*x*x)+(-(1152*b) + -(360*b*b*b*b))*(x*x*x*x*x) + -(576)*(x*x*x*x*x*x) + -(216*b*b)*(x*x*x*x*x*x*x) + -(48)*(x*x*x*x*x*x*x*x*x))+((2239488*b*b + -(2239488*b*b*b*b*b))*(x*x*x*x)+(-(4478976*b*b*b)*(x*x*x)+((2985984*b + -(14929920*b*b*b*b) + -(1492992*b*b*b*b*b*b*b))*(x*x)+((13436928*b*b*b*b*b)*x+(1327104 + -(18911232*b*b*b)+4727808*b*b*b*b*b*b + -(580608*b*b*b*b*b*b*b*b*b)))))):=by grind
theorem Zt9{α:Type}[Cr α]{g u v r w:α}(e:(1+1+1+1+1+1)*(g*u)=w)(h:w=g*v+r):g*((1+1+1+1+1+1)*u + -v)=r:=by grind
set_option maxRecDepth 100000 in
theorem Zkw(b:Int):∃t:Int,0<=t/\t<bP/\Y0 (t*t*t-3*b*b*t+4,3*b*(t*t)-b*b*b+4):=by
 refine Classical.byContradiction fun hno=>?_
 have hp:bP.toNat=2*(2*kE+1)+1:=by unfold kE bP;decide
 have hpI:((bP.toNat:Nat):Int)=bP:=Kg (H9 Q9);have h15:15<bP.toNat:=by unfold bP;decide
 generalize bP.toNat=p at hp hpI h15;obtain⟨u,hu,e⟩:=step hp h15 (by rw[Zq0,hpI];exact Zc6.2 (Int.emod_self)) (fun i=>zp bP i) (fun i j hi hj h=>Zuw (by omega) (by omega) h) (fun i hi=>by
  show J8 (zp bP i) p=zp bP i;rw[Zk4];refine Qbr.2 ?_;by_cases h0:(i:Int)%bP=0
  ·have h1:((i:Int)*(i:Int)^(2*(2*kE+1)))%bP=0:=X4 _ h0;rw[hp,L3,M0,h1,h0]
  ·have h1:=Qpd h0;rw[hp,L3];have:=Q4 (p:=bP) (a:=(i:Int)^(2*(2*kE+1))) (A:=1) (b:=i) (B:=i) (by rw[h1];rfl) rfl;rw[this,Int.one_mul]) (Zqq b) (fun i hi=>by
  show J8 (Xj (zp bP i) (gN b)) (2*kE+1)=-1;rw[Zux];have hn:¬sqV (((i:Int)*i*i-3*b*b*i+4)*((i:Int)*i*i-3*b*b*i+4)+(3*b*((i:Int)*i)-b*b*b+4)*(3*b*((i:Int)*i)-b*b*b+4)):=fun hq=>hno ⟨i,by omega,by omega,Zun hq⟩
  generalize ((i:Int)*i*i-3*b*b*i+4)*((i:Int)*i*i-3*b*b*i+4)+(3*b*((i:Int)*i)-b*b*b+4)*(3*b*((i:Int)*i)-b*b*b+4)=c at hn;have hc:¬c%bP=0:=fun h0=>hn (Zlw h0)
  have h1:=Qpd hc;rw[Zk4,show(-1:Z)=zp bP (-1)from rfl];refine Qbr.2 (Yl ?_);rw[show 2*(2*kE+1)=(2*kE+1)+(2*kE+1) by omega,Kz]at h1;have hu:¬c^(2*kE+1)%bP=1:=fun hu=>hn (Zmj hu)
  generalize c^(2*kE+1)=w at h1 hu;have h2:((w-1)*(w+1))%bP=0:=by
   have:=Qbv (x:=w*w) (y:=1) (by rw[h1];rfl);rwa[show(w-1)*(w+1)=w*w-1 by grind]
  have h3:=Ui h2 fun h0=>hu (by rw[Yl h0];rfl)
  rwa[show w - -1=w+1 by omega])
 have e2:gN b*((1+1+1+1+1+1)*u + -vN b)=rN b:=by
  have d1:Dv (gN b)=ph 6*(Xx*Xx*Xx*Xx*Xx)+(ph 12*ph b*ph b*(Xx*Xx*Xx)+(ph 24*(Xx*Xx)+((ph 6*ph b*ph b*ph b*ph b+ph 48*ph b)*Xx + -(ph 24*ph b*ph b)))):=by
   unfold gN;simp only[Ja,Qdo,Za5,Zh0,Zkh];simp only[Qox]
   grind
  have d2:Dv (Dv (gN b))=ph 30*(Xx*Xx*Xx*Xx)+(ph 36*ph b*ph b*(Xx*Xx)+(ph 48*Xx+(ph 6*ph b*ph b*ph b*ph b+ph 48*ph b))):=by
   rw[d1];simp only[Ja,Qdo,Za5,Zh0,Zkh];simp only[Qox]
   grind
  have d3:Dv (Dv (Dv (gN b)))=ph 120*(Xx*Xx*Xx)+(ph 72*ph b*ph b*Xx+ph 48):=by
   rw[d2];simp only[Ja,Qdo,Za5,Zh0,Zkh];simp only[Qox]
   grind
  refine Zt9 e ?_;rw[d3,d2,d1];unfold gN vN rN;simp only[Qox];exact Zu2 Xx (ph b)
 have hz:(1+1+1+1+1+1)*u + -vN b=0:=Classical.byContradiction fun hc=>by
  obtain⟨k,hk⟩:=Bi hc;have:=Y7 (Zqq b) hk;rw[e2]at this;have:=Qrx this (Zs3 b);omega
 rw[hz]at e2;exact Zwf (e2.symm.trans (by grind))
section
variable {p:Int}
theorem Zqy(a:Int):∀n,J8 (zp p a) n=zp p (a^n)
 |0=>by rw[Oal];rfl
 |n+1=>by
  show zp p a*J8 (zp p a) n=_;rw[Zqy a n,<- Be,L3,M0]
theorem Qh7{α:Type}[Cr α](x:α)(m:Nat):∀n,J8 x (m+n)=J8 x m*J8 x n
 |0=>by show J8 x m=J8 x m*1;grind
 |n+1=>by show x*J8 x (m+n)=J8 x m*(x*J8 x n);rw[Qh7 x m n];grind
theorem Qyf{α:Type}[Cr α](x y:α):∀n,J8 (x*y) n=J8 x n*J8 y n
 |0=>by show(1:α)=1*1;grind
 |n+1=>by show x*y*J8 (x*y) n=x*J8 x n*(y*J8 y n);rw[Qyf x y n];grind
theorem Qyb{α:Type}[Cr α](x:α):∀k,J8 (-x) (2*k+1)=-J8 x (2*k+1)
 |0=>by show -x*1=-(x*1);grind
 |k+1=>by
  show -x*(-x*J8 (-x) (2*k+1))=-(x*(x*J8 x (2*k+1)))
  rw[Qyb x k];grind
theorem Zr6(hp:prP p){k:Nat}(hk:p=4*k+3)(hq:Np.isP (4*k+3))(c:Zp p)(hc:c≠0):letI:=fdP hp;((∃y:Zp p,y*y=c)↔¬ ∃y:Zp p,y*y=-c):=by
 letI:=fdP hp;have fer:∀x:Zp p,x≠0->J8 x ((2*k+1)+(2*k+1))=1:=fun x=>Quotient.inductionOn x fun a ha=>by
  have h0:0<=a%p:=Mw _ (by omega);have h1:a%p<p:=Mv _ (by omega);have e1:zp p a=zp p (((a%p).toNat:Nat):Int):=by rw[Kg h0,Qee]
  have ha:zp p a≠0:=ha;show J8 (zp p a) _=1;rw[e1]at ha ⊢;generalize (a%p).toNat=n at ha;have hd:¬(4*k+3)∣n:=fun⟨d,hd⟩=>ha (Zc6.2 (by rw[hd,hk];push_cast;exact Int.mul_emod_right _ _))
  have:=Np.fermat hq hd;rw[show 4*k+3-1=(2*k+1)+(2*k+1) by omega]at this;rw[Zqy];show zp p _=zp p 1;refine Qbr.2 ?_;rw[hk,<- Kj];have e2:((n^(2*k+1+(2*k+1)):Nat):Int)%((4*k+3:Nat):Int)=((1:Nat):Int):=by rw[<- Oam,this]
  have e3:((4*k+3:Nat):Int)=4*(k:Int)+3:=by push_cast;rfl
  rw[e3]at e2;rw[e2,Oy (by decide) (by omega)];rfl
 have two:∀x:Zp p,x=-x->x=0:=fun x h=>by
  have:(1+1)*x=0:=by grind
  rcases W3 this with h|h
  ·exact absurd h Fd.two_ne
  ·exact h
 have f1:=fer c hc;rw[Qh7]at f1;have hn:=Qyb c k;have sq:∀d:Zp p,J8 d (2*k+1)=1->∃y,y*y=d:=fun d h=>⟨J8 d (k+1),by
  rw[<- Qh7,show k+1+(k+1)=(2*k+1)+1 by omega];show d*J8 d (2*k+1)=d;rw[h];grind⟩
 have ne:∀d:Zp p,d≠0->(∃y,y*y=d)->J8 d (2*k+1)=1:=fun d hd ⟨y,hy⟩=>by
  have hy0:y≠0:=fun h=>hd (by rw[<- hy,h];exact mul_zero _)
  rw[<- hy,Qyf,<- Qh7];exact fer y hy0
 constructor
 ·intro h h';have h1:=ne c hc h;have h2:=ne (-c) (fun h=>hc (by grind)) h';rw[hn,h1]at h2;have:=two 1 h2.symm;exact Fd.one_ne this
 ·intro h;have h2:(J8 c (2*k+1) + -1)*(J8 c (2*k+1)+1)=0:=by grind
  rcases W3 h2 with h3|h3
  ·exact sq c (by grind)
  ·exact absurd (sq (-c) (by rw[hn];grind)) h
theorem Zx8(hp:prP p){k:Nat}(hk:p=4*k+3)(hq:Np.isP (4*k+3)){A:Pn (Zp p)}(hA:@Pn.on (Zp p) (fdP hp) 1 0 A):@Ml (Zp p) (fdP hp) 1 0 (4*k+3+1) A .O:=by
 letI:=fdP hp;have hl:((List.range (4*k+3)).map fun i:Nat=>zp p (i:Int)).length=4*k+3:=by simp
 have:=Zmn (nsL hp) (X:=(List.range (4*k+3)).map fun i:Nat=>zp p (i:Int)) (Zpr _ _ fun i j hi hj h=>by
  have:=Qbr.1 h;rw[Oy (by omega) (by omega),Oy (by omega) (by omega)]at this;omega) (fun x=>Quotient.inductionOn x fun a=>by
  have h0:0<=a%p:=Mw _ (by omega);have h1:a%p<p:=Mv _ (by omega);refine Mx.2 ⟨(a%p).toNat,M3.2 (by omega),?_⟩;show zp p (((a%p).toNat:Nat):Int)=zp p a;rw[Kg h0,Qee]) (Zr6 hp hk hq) hA
 rwa[hl]at this
end
theorem Zjq{s:Int}(h:B5 s)(tag:Int)(t:List Int):onL (pL s) (Qcx s tag t)/\inP (pL s) (Wk s) (Qcx s tag t).x (Qcx s tag t).y (Qcx s tag t).z:=by
 have hp:=Qpw h;have ho:=Qyt hp (Y8 (pL s) tag t);letI:=fdP hp;have hc:(cL s).toNat<2^64:=by rcases h with h|h <;> rw[h] <;> decide
 obtain⟨o,m⟩:=Qh9 hp ho 64 (cL s).toNat hc;refine⟨o,(Qik hp (Qcu h) o).2 ⟨o,?_⟩⟩;obtain⟨C,hC⟩:=Qhb (nsL hp) (B8 hp o) (Wk s).toNat;have h1:=Qku m hC;have h2:Ml 1 0 ((Wk s).toNat*(cL s).toNat) (ptL (pL s) (Zpn (pL s) (Y8 (pL s) tag t))) .O:=by
  rcases h with h|h
  ·have e:pL s=4*(196562:Nat)+3:=by rw[h];decide
   have:=Zx8 hp e (show Np.isP 786251 from Np.p786251) (B8 hp ho);have e2:(Wk s).toNat*(cL s).toNat=4*196562+3+1:=by rw[h];decide
   rw[e2];exact this
  ·have e:pL s=4*(288230376151711555:Nat)+3:=by rw[h];decide
   have:=Zx8 hp e (show Np.isP 1152921504606846223 from Np.p_mid7) (B8 hp ho);have e2:(Wk s).toNat*(cL s).toNat=4*288230376151711555+3+1:=by rw[h];decide
   rw[e2];exact this
 have:=Wt h1 h2;subst this;exact hC
theorem Qne(a b:Int):∃n:Nat,J7 (b%bP) ((a+n)%bP):=by
 obtain⟨t,h0,h1,h2⟩:=Zkw (b%bP);refine⟨((t-a)%bP).toNat,?_⟩;have h3:=Zo (x:=t-a) Q9;rw[Kg h3.1,Int.add_emod_emod,show a+(t-a)=t by omega,Oy h0 h1];unfold J7;refine(Zqa (a:=(t*t*t-3*(b%bP)*(b%bP)*t+4,3*(b%bP)*(t*t)-b%bP*(b%bP)*(b%bP)+4)) ?_).2.1 h2;generalize b%bP=b;have e:z2 (t*t*t-3*b*b*t+4,3*b*(t*t)-b*b*b+4)=z2 (t,b)*z2 (t,b)*z2 (t,b)+z2 (4,4):=by
  show z2 _=z2 _;congr 1;refine Prod.ext ?_ ?_
  ·show t*t*t-3*b*b*t+4=(t*t-b*b)*t-(t*b+b*t)*b+4;grind
  ·show 3*b*(t*t)-b*b*b+4=(t*t-b*b)*b+(t*b+b*t)*t+4;grind
 refine U9.1 (e.trans ?_);rw[Qpl,zm];grind
theorem Zmo{t:T2}(h:Qa7 t){x y:Nat}(hx:x<2^384)(hy:y<2^384):Qa7 (G2.mul (G2.mul (G2.mul t x) y) y)/\Ml (0:F2) (z2 (4,4)) (y*(y*x)) (pt2 t) (pt2 (G2.mul (G2.mul (G2.mul t x) y) y)):=by
 obtain⟨a1,m1⟩:=G2.mul_ok h hx;obtain⟨a2,m2⟩:=G2.mul_ok a1 hy;obtain⟨a3,m3⟩:=G2.mul_ok a2 hy;exact⟨a3,Qku (Qku m1 m2) m3⟩
theorem Zt8{t:T2}(h:Qa7 t):G2.In Xs.toNat (Qs0 t):=by
 have hH:c2H.toNat<2^384:=by decide +kernel
 have hS:cSh.toNat<2^384:=by decide +kernel
 have hL:c2L.toNat<2^384:=by decide +kernel
 obtain⟨a3,m4⟩:Qa7 (hi3 t)/\Ml (0:F2) (z2 (4,4)) (cSh.toNat*(cSh.toNat*c2H.toNat)) (pt2 t) (pt2 (hi3 t)):=Zmo h hH hS;have e:Qs0 t=Qbb (Zaf (hi3 t) t 1 c2L):=by unfold Qs0;rw[Zt4]
 rw[e];clear e;generalize hi3 t=w at a3 m4 ⊢;obtain⟨B,j1,n1⟩:=Qg4 ph2 ns2 (B6 a3) (Xy a3) 384 1 (by decide +kernel);obtain⟨D,j2,n2⟩:=Qg4 ph2 ns2 (B6 h) (Xy h) 384 c2L.toNat hL;have eB:B=pt2 (w):=Wt n1 (Zd0 (Xy a3));subst eB;obtain⟨C,j3,s3,o3⟩:=Qkj ph2 (Zjc ph2) j1 (show(Pn.O:Pn F2).on 0 (z2 (4,4))from True.intro) (Xy a3);have eC:C=pt2 (w):=Znm ns2 (A:=.O) trivial (Xy a3) o3 (Xy a3) s3 (.zl _);subst eC;obtain⟨S,j4,s4,o4⟩:=Qkj ph2 (Qs9 ph2 j3) j2 (Xy a3) n2.2;obtain⟨c,q⟩:=Qpa (Qs9 ph2 j4) o4;have e5:Qbb (Zaf (w) t 1 c2L)=Qbb (J.md R2 (Wo R2 (J.md R2 (Wo R2 (oJ R2) (W5 R2 (rsU (w)) 384 1))) (W5 R2 (rsU t) 384 c2L.toNat))):=rfl;rw[e5];refine⟨c,?_⟩;show Ml (0:F2) (z2 (4,4)) Xs.toNat (pt2 _) .O;rw[q];have m5:=Qb3 ns2 m4 n2 s4 o4;obtain⟨E,hE⟩:=Qhb ns2 o4 Xs.toNat;have m6:=Qku m5 hE;have ek:Xs.toNat*(cSh.toNat*(cSh.toNat*c2H.toNat)+c2L.toNat)=hR2:=by decide +kernel
 rw[ek]at m6;have:=Wt m6 (Zyz (Xy h));subst this;exact hE
theorem Zoy{s:Int}(h:Vf s)(t:List Int):(Qgl s t).Is:=by
 unfold Qgl;by_cases h0:s=0
 ·rw[if_pos h0];exact .inl ⟨rfl,rfl,Zt8 (Qmm (Qne _ _))⟩
 ·rw[if_neg h0];have hl:B5 s:=by unfold Vf at h;unfold B5;omega
  obtain⟨o,i⟩:=Zjq hl 3 t;exact .inr ⟨hl,rfl,(Qik (Jz hl) (Qcu hl) o).1 i⟩
end Go.Sx
namespace Go.Sx
open Go Go.RowKit
set_option maxRecDepth 100000
set_option maxHeartbeats 4000000
def QP(g:Int)(t:List Int):Prop:=t.length<=65536
def B1(f:FuncId):K:={fn:=f,ext:=false,ins:=[iI,.ll],outs:=[oB],pre:=fun _=>True,sem:=fun _=>[1] }
theorem Qru:∀l:List Int,(∀z∈l,(dec z).length<=500)->X8 l<=504*(l.length:Int)
 |[],_=>by simp[X8]
 |x::l,h=>by
  have h1:=Qru l fun z hz=>h z (.tail _ hz)
  have h2:=h x (.head _);have e:X8 (x::l)=4+((dec x).length:Int)+X8 l:=by simp[X8]
  rw[e,Ov];omega
theorem Ztz{T:List K}{e:Nat->Int}{v:Int}{i j:Nat}(hv:v=(D.eqs [((.m i 0),(.m j 0)),((.m i 1),(.m j 1)),((.m i 2),(.m j 2)),((.m i 3),(.m j 3)),((.m i 4),(.m j 4)),((.m i 5),(.m j 5))]).ev T e)(h:e i=e j):v≠0:=by
 rw[hv];simp only[D.ev,L1,Oaa,Qp,h,beq_self_eq_true,H6,Xo];decide
def Qln:Qq:=(xw 0 [] 2 qga
(.l 3 .bit (.c .lss (.v 0) (.n 0))
(.split 3
(.ret [.v 2])
(.l 4 .bit (.c .gtr (.v 0) (.n 2))
(.split 4
(.ret [.v 2])
(.l 5 kI (.llen (.v 1))
(.l 6 .bit (.c .gtr (.v 5) (.n 20))
(.split 6
(.ret [.v 2])
(.loop [.n 0] [kI] 7
(.l 8 kI (.llen (.v 1))
(.l 9 .bit (.c .lss (.v 7) (.v 8))
(.split 9
(.l 10 kI (.llen (.v 1))
(.l 11 .bit (.c .leq (.n 0) (.v 7))
(.l 12 .bit (.c .lss (.v 7) (.v 10))
(.nz (.v 11)
(.nz (.v 12)
(.l 13 (.lst (.int .u8)) (.lget (.v 1) (.v 7))
(.l 14 kI (.llen (.v 13))
(.l 15 .bit (.c .gtr (.v 14) (.n 500))
(.split 15
(.ret [.v 2])
(.l 16 kI (.b .add .i64 (.v 7) (.n 1))
(.back 0 [.v 16])))))))))))
(xw 1 [.v 0,.v 1] 10 qla
(xw 1 [.v 0,.v 1] 12 qla
(xw 2 [.v 0,.v 1] 14 qka
(xw 2 [.v 0,.v 1] 24 qka
(xw 3 [.v 0] 34 qla
(.split 2
(.l 36 .bit (.c .eql (.v 11) (.n 0))
(.split 36
(.l 37 .bit (.c .eql (.v 13) (.n 0))
(.split 37
(.l 38 .bit (.c .eql (.v 23) (.n 0))
(.split 38
(.l 39 .bit (.c .eql (.v 33) (.n 0))
(.split 39
(.l 40 .bit (.eqs [((.m 10 0),(.m 12 0)),((.m 10 1),(.m 12 1)),((.m 10 2),(.m 12 2)),((.m 10 3),(.m 12 3)),((.m 10 4),(.m 12 4)),((.m 10 5),(.m 12 5))])
(.split 40
(.l 41 .bit (.eqs [((.v 14),(.v 24)),((.m 15 0),(.m 25 0)),((.m 15 1),(.m 25 1)),((.m 15 2),(.m 25 2)),((.m 15 3),(.m 25 3)),((.m 15 4),(.m 25 4)),((.m 15 5),(.m 25 5)),((.m 16 0),(.m 26 0)),((.m 16 1),(.m 26 1)),((.m 16 2),(.m 26 2)),((.m 16 3),(.m 26 3)),((.m 16 4),(.m 26 4)),((.m 16 5),(.m 26 5)),((.m 17 0),(.m 27 0)),((.m 17 1),(.m 27 1)),((.m 17 2),(.m 27 2)),((.m 17 3),(.m 27 3)),((.m 17 4),(.m 27 4)),((.m 17 5),(.m 27 5)),((.m 18 0),(.m 28 0)),((.m 18 1),(.m 28 1)),((.m 18 2),(.m 28 2)),((.m 18 3),(.m 28 3)),((.m 18 4),(.m 28 4)),((.m 18 5),(.m 28 5)),((.v 19),(.v 29)),((.v 20),(.v 30)),((.v 21),(.v 31)),((.v 22),(.v 32))])
(.split 41
(xw 4 [.v 10,.v 34] 42 [kI]
(.l 43 .bit (.c .lss (.v 42) (.n 0))
(.split 43
(xw 5 [.v 14,.v 15,.v 16,.v 17,.v 18,.v 19,.v 20,.v 21,.v 22] 44 qga
(.ret [.v 44]))
(.ret [.n 0]))))
(.ret [.n 0])))
(.ret [.n 0])))
(.ret [.n 0])))
(.ret [.n 0])))
(.ret [.n 0])))
(.ret [.n 0])))
(.ret [.n 0])))))))))))))))))))
theorem Qti(f0 f1 f2 f3 f4 f5 f:FuncId)(e:Nat->Int)(hk:Q0 [.int .i64,.lst .byt] [e 0,e 1]):Qln.Xat [Qxe f0,Qsr QP f1,Qqu QP f2,Qci f3,Vt f4,Qie f5] ⟨fun ys=>ys=(B1 f).sem [e 0,e 1],[]⟩ e:=by
 have hL:=hk.2.1.1;clear hk;obtain⟨L,d1⟩:∃L,dec (e 1)=L:=⟨_,rfl⟩
 rw[d1]at hL;show Qln.Xat _ ⟨fun ys=>ys=[1],[]⟩ e;refine⟨trivial,fun a2 _ a3 _=>?_⟩;have v2:e 2=1:=a2;have b3:=Zj a3;simp only[Ql,Qn]at b3;refine⟨fun _=>by show[e 2]=[1];rw[v2],fun h3 a4 _=>?_⟩;have b4:=Qeq a4;simp only[Ql,Qn]at b4;refine⟨fun _=>by show[e 2]=[1];rw[v2],fun h4=>?_⟩;have hs:Vf (e 0):=by have:=Wc b3 h3;have:=Wc b4 h4;exact⟨by omega,by omega⟩
 intro a5 _ a6 _;have v5:e 5=(L.length:Int):=by rw[<- d1];exact a5
 have b6:=Qeq a6;simp only[Ql,Qn]at b6;refine⟨fun _=>by show[e 2]=[1];rw[v2],fun h6=>?_⟩;have hl:L.length<=20:=by have:=Wc b6 h6;omega
 clear a2 a3 a4 a5 a6 b3 b4 b6 h3 h4 h6;refine⟨fun|[i]=>(0<=i/\i<=L.length)/\∀z∈L.take i.toNat,(dec z).length<=500|_=>False,fun|[i]=>(L.length-i).toNat|_=>0,⟨⟨Int.le_refl _,(show(0:Int)<=L.length by omega)⟩,fun z hz=>by cases hz⟩,fun e' he hkk hI=>?_⟩;obtain⟨⟨i0,i1⟩,hq⟩:(0<=e' 7/\e' 7<=L.length)/\∀z∈L.take (e' 7).toNat,(dec z).length<=500:=hI;have d1:=(congrArg dec (he 1 (by decide))).trans d1;have v2:=(he 2 (by decide)).trans v2;have hs:Vf (e' 0):=by rw[he 0 (by decide)];exact hs
 clear he hkk v5;intro a8 _ a9 _;have v8:e' 8=(L.length:Int):=by rw[<- d1];exact a8
 have b9:=Zj a9;simp only[Ql]at b9;refine⟨fun h=>?_,fun h=>?_⟩
 ·have c9:e' 7<L.length:=by have:=Xn b9 h;omega
  intro a10 _ a11 _ a12 _;have v10:e' 10=(L.length:Int):=by rw[<- d1];exact a10
  have hn:(e' 7).toNat<L.length:=by omega
  refine⟨Xf a11 i0,Xi a12 (by show e' 7<e' 10;omega),fun a13 _ a14 _ a15 _=>?_⟩;have v13:e' 13=L.getD (e' 7).toNat 0:=by rw[<- d1];exact a13
  have v14:e' 14=((dec (e' 13)).length:Int):=a14;have b15:=Qeq a15;simp only[Ql,Qn]at b15;refine⟨fun _=>by show[e' 2]=[1];rw[v2],fun h15=>?_⟩;have c15:=Wc b15 h15;intro a16 _;have v16:=Zcq (a:=e' 7) (b:=1) a16 (by omega);show((0<=e' 16/\e' 16<=L.length)/\∀z∈L.take (e' 16).toNat,(dec z).length<=500)/\(L.length-e' 16).toNat<(L.length-e' 7).toNat;refine⟨⟨by omega,?_⟩,by omega⟩;rw[show(e' 16).toNat=(e' 7).toNat+1 by omega,Ki hn];intro z hz;rcases L5.1 hz with hz|hz
  ·exact hq z hz
  ·rw[Me]at hz;have:e' 13=z:=by rw[hz,v13,Ou,O1 hn];rfl
   rw[<- this];omega
 ·have c9:e' 7=L.length:=by have:=Wc b9 h;omega
  rw[c9,Mi,Mg (Nat.le_refl _)]at hq;have ht:X8 (dec (e' 1))<=65536:=by
   rw[d1];have:=Qru L hq;omega
  have hf:Qo4 (e' 1):=fun z hz=>by
   rw[d1]at hz;have:=hq z hz;omega
  have hj:=Zix ht;clear b9 a8 a9 h hq;obtain⟨x,hx⟩:∃x,Zz (dec (e' 1))=x:=⟨_,rfl⟩
  refine⟨⟨hf,fun _=>hj⟩,fun a10 _ a11 _=>⟨⟨hf,fun _=>hj⟩,fun a12 _ a13 _=>?_⟩⟩;have hN:Qem (e' 0) (e' 1)=[Y8 (Wk (e' 0)) 2 x,0]:=by unfold Qem;rw[if_pos hs,if_pos ht,hx]
  have v10:e' 10=Y8 (Wk (e' 0)) 2 x:=by rw[show e' 10=(Qem (e' 0) (e' 1)).getD 0 0 from a10,hN];rfl
  have v11:e' 11=0:=by rw[show e' 11=(Qem (e' 0) (e' 1)).getD 1 0 from a11,hN];rfl
  have v12:e' 12=Y8 (Wk (e' 0)) 2 x:=by rw[show e' 12=(Qem (e' 0) (e' 1)).getD 0 0 from a12,hN];rfl
  have v13:e' 13=0:=by rw[show e' 13=(Qem (e' 0) (e' 1)).getD 1 0 from a13,hN];rfl
  have hr:=Qke (e' 0);have lt10:e' 10<Wk (e' 0):=by rw[v10];unfold Y8;exact(Zt3 _ hr).2
  have hpre:Qo4 (e' 1)/\(e' 0=0->X8 (dec (e' 1))<=65536->Qvz (Zz (dec (e' 1))))/\(X8 (dec (e' 1))<=65536->QP 3 (Zz (dec (e' 1)))/\QP 4 (Zz (dec (e' 1)))):=⟨hf,fun _ _=>Qne _ _,fun _=>⟨hj,hj⟩⟩
  refine⟨hpre,fun a14 _ a15 _ a16 _ a17 _ a18 _ a19 _ a20 _ a21 _ a22 _ a23 _=>⟨hpre,fun a24 _ a25 _ a26 _ a27 _ a28 _ a29 _ a30 _ a31 _ a32 _ a33 _=>?_⟩⟩;have hS:Qj6 (e' 0) (e' 1)=(Qgl (e' 0) x).L++[0]:=by unfold Qj6;rw[if_pos hs,if_pos ht,hx]
  obtain⟨hA,v23⟩:Sg.mk (e' 14) ((e' 15,e' 16),(e' 17,e' 18),e' 19) ⟨e' 20,e' 21,e' 22⟩=Qgl (e' 0) x/\e' 23=0:=Ziv (L:=Qj6 (e' 0) (e' 1)) hS a14 a15 a16 a17 a18 a19 a20 a21 a22 a23;obtain⟨hB,v33⟩:Sg.mk (e' 24) ((e' 25,e' 26),(e' 27,e' 28),e' 29) ⟨e' 30,e' 31,e' 32⟩=Qgl (e' 0) x/\e' 33=0:=Ziv (L:=Qj6 (e' 0) (e' 1)) hS a24 a25 a26 a27 a28 a29 a30 a31 a32 a33;refine⟨trivial,fun a34 _ a35 _=>?_⟩;have v34:e' 34=Wk (e' 0):=by rw[show e' 34=(if Vf (e' 0)then[Wk (e' 0),0]else[0,2]).getD 0 0 from a34,if_pos hs];rfl
  refine⟨fun _ a36 _=>?_,fun h=>by omega⟩;have b36:=Zy a36;simp only[Ql,Qn]at b36;refine⟨fun _ a37 _=>?_,fun h=>by omega⟩;have b37:=Zy a37;simp only[Ql,Qn]at b37;refine⟨fun _ a38 _=>?_,fun h=>by omega⟩;have b38:=Zy a38;simp only[Ql,Qn]at b38;refine⟨fun _ a39 _=>?_,fun h=>by omega⟩;have b39:=Zy a39;simp only[Ql,Qn]at b39;refine⟨fun _ a40 _=>?_,fun h=>by omega⟩;have n40:=Ztz a40 (v10.trans v12.symm);refine⟨fun _ a41 _=>?_,fun h=>absurd h n40⟩;have n41:=Zth a41 (hA.trans hB.symm);refine⟨fun _=>⟨trivial,fun a42 _ a43 _=>?_⟩,fun h=>absurd h n41⟩;have v42:e' 42=-1:=by rw[show e' 42=(if e' 10<e' 34 then -1 else if e' 10=e' 34 then 0 else 1)from a42,if_pos (by omega)]
  have b43:=Zj a43;simp only[Ql,Qn]at b43;refine⟨fun _=>⟨trivial,fun a44 _=>?_⟩,fun h=>by omega⟩;show[e' 44]=[1]
  rw[(show e' 44=bj (Qeh (e' 14) (e' 15) (e' 16) (e' 17) (e' 18) (e' 19) (e' 20) (e' 21) (e' 22))from a44).trans (Zk5 hA (Sg.Xbz (Zoy hs x)).1)]
theorem Zln(f1 f:FuncId)(e:Nat->Int)(hp:(Qq6 QP f).pre [e 0]):Sha.tDSum.Xat [Sha.kRot f1] ⟨fun ys=>ys=(Qq6 QP f).sem [e 0],[]⟩ e :=
 Sha.law_dsum f1 f e (by
  obtain⟨g,t,h,hx⟩:=hp;have h:t.length<=65536:=h;show(dec (e 0)).length<1073741824;rcases hx with hx|hx <;> rw[hx,Qu,Ov,Ov] <;> omega)
end Go.Sx
