/- Part Hh of the proof. -/
import Derived.Test.YtlloonffibabfaaGreatDoorHg
set_option linter.unusedVariables false
set_option linter.unusedSimpArgs false
namespace Go.Sx
open Go Go.RowKit
section
variable {P:Program}{T:List K}{LA:List Ann}{w0:World}{m:M}{Y:St}{a:Act}{w:World}
def Zq9(P:Program)(n:Nat)(Q:Exit->Act->World->Prop):Job->Act->World->Prop
 |.code c,a,w=>c.wp P Q a w
 |.rounds c,a,w=>Code.rounds P c Q n a w
 |.ops all l,a,w=>wpList P all Q l a w
def Zw0(P:Program)(T:List K)(LA:List Ann)(w0:World)(n:Nat):Prop:=∀(job:Job) (Y:St) (k:Ex->St->Qq) (m:M) (a:Act) (w:World) (goal:Gl) (Q:Exit->Act->World->Prop),
 Rep w0 m Y a w->Y.lvl=goal.stk.length->(run P T LA n job Y k).holds T goal m.env ->
 (∀e Y' m' a' w' goal',Ub goal goal'->Y'.lvl=goal'.stk.length->MExt m Y.nv Y.al m' Y'.nv Y'.al->Rep w0 m' Y' a' w'->(k e Y').holds T goal' m'.env->Q (Qf4 e) a' w')->Zq9 P n Q job a w
theorem Zky{nn nid:Nat}{op:Op}{p:Plan}(hp:Qy P T Y nn nid op=.ok p)(he:Vd p.eff=true):Qkm op=true:=by
 cases op with
 |alloc e=>rfl
 |box e x=>rfl
 |buildSlice t n ps=>rfl
 |call c=>rfl
 |binOp op t x y yt =>
  exfalso;simp only[Qy]at hp;split at hp
  ·split at hp
   ·rename_i q hq;cases hp;obtain⟨id,r,e,n,rfl,rfl,hr,hut,hn,rfl⟩:=Yh hq;cases he
   rename_i hnone;clear hnone;unfold Jm at hp;split at hp
   ·simp only[U0,Bj]at hp;repeat' split at hp
    all_goals (first|(cases hp;done)|(cases hp;cases he;done))
   all_goals
    try simp only[Bj,Vj]at hp
    repeat' split at hp
    all_goals (first|(cases hp;done)|(cases hp;cases he;done))
  ·cases hp
 |_ =>
  exfalso;simp only[Qy,Vj,Uj,Bj,Ji,Ut,Qa4]at hp;repeat' split at hp
  all_goals (first|(cases hp;done)|(cases hp;cases he;done)|(cases hp;rename_i hq;obtain⟨_,_,_,_,_,_,_,_,_,_,_,_,_,rfl⟩:=W6 hq;cases he))
theorem Zlx(h:Rep w0 m Y a w)(op:Op):Rep w0 m (room Y op) a w/\(room Y op).nv=Y.nv/\(room Y op).lvl=Y.lvl/\(room Y op).al=Y.al/\(Qkm op=true->(room Y op).boxes[Y.boxes.length]?=some none):=by
 unfold room;split
 ·refine⟨h.room 1,rfl,rfl,?_,fun _=>by simp⟩
  funext id
  unfold St.al;by_cases hl:id<Y.boxes.length
  ·simp[Mm hl]
  ·simp only[My (show Y.boxes.length<=id by omega)];rw[Mf (by omega)];by_cases h2:id-Y.boxes.length=0
   ·simp[h2]
   ·rw[My (by simp;omega)]
 ·rename_i hm;exact⟨h,rfl,rfl,rfl,fun e=>absurd e hm⟩
theorem knows(h:Rep w0 m Y a w){v:Nat}{t f:Qq}{goal:Gl}(hh:(Qq.split v t f).holds T goal m.env)(hv:v<Y.nv) :
  (Rep w0 m (Y.Xbe v true) a w/\t.holds T goal m.env/\m.env v≠0)∨(Rep w0 m (Y.Xbe v false) a w/\f.holds T goal m.env/\m.env v=0):=by
 obtain⟨h1,h2⟩:=hh;by_cases hz:m.env v=0
 ·exact .inr ⟨h.Xbe hv (by simp[hz]),h2 hz,hz⟩
 ·exact .inl ⟨h.Xbe hv (by simp[hz]),h1 hz,hz⟩
structure DropOk (Y σd:St) (n:Nat) (ids:List Nat):Prop where
 nv:σd.nv=Y.nv
 kn:σd.kn=Y.kn
 gl:σd.gl=Y.gl
 len:σd.tmps.length=Y.tmps.length
 al:σd.al=Y.al
 box:∀(id:Nat) (b:Box),σd.boxes[id]?=some (some b)->∃b',Y.boxes[id]?=some (some b')/\b'.own=b.own/\(b.row=none∨b'.row=b.row/\id ∉ ids)
 room:∀j,j<n->σd.boxes[Y.boxes.length+j]?=some none
theorem Zgq(hR:Rep w0 m Y a w)(c:Code)(ann:Ann)(q:List (A×Option Nat)):Rep w0 m (Qr6 Y c ann q) a w/\DropOk Y (Qr6 Y c ann q) ann.lsts.length (Us q):=by
 unfold Qr6;generalize (((Code.Xbs c).filter fun t=>!ann.hav.any fun p=>Qlj t p.1)++ann.lsts.map (·.slot))=dl;obtain⟨s1,s2,s3,s4,s5,s6⟩:=Qde dl Y;have h1:=Qfd dl hR;have h2:=h1.Xax (Us q);have h3:=h2.room ann.lsts.length;have hald:(Ye Y dl).al=Y.al:=by funext id;unfold St.al;rw[s2]
 refine⟨h3,s1,s3,s4,s6,?_,fun id b hb=>?_,fun j hj=>?_⟩
 ·exact(Qx9 {Ye Y dl with boxes:=Sx.Xax (Ye Y dl).boxes (Us q) } _).trans ((Qcb (Us q) (Ye Y dl)).trans hald)
 ·have hb:(Sx.Xax (Ye Y dl).boxes (Us q)++List.replicate ann.lsts.length none)[id]?=some (some b):=hb;rw[s2]at hb;have hl:id<(Sx.Xax Y.boxes (Us q)).length:=by
   rcases Ha id (Sx.Xax Y.boxes (Us q)).length with h|h
   ·exact h
   ·rw[Mf h]at hb;have:=Mu hb;rw[List.mem_replicate]at this;cases this.2
  rw[Mm hl]at hb;obtain⟨b',k1,k2,k3,k4,k5⟩:=X7 _ hb;exact⟨b',k1,k4,k5⟩
 ·show(Sx.Xax (Ye Y dl).boxes (Us q)++List.replicate ann.lsts.length none)[Y.boxes.length+j]?=some none;rw[s2,Mf (by rw[Uo];omega),Uo];rw[List.getElem?_replicate];simp[hj]
theorem Zon(hR:Rep w0 m Y a w){goal:Gl}(hlvl:Y.lvl=goal.stk.length){ann:Ann}{q:List (A×Option Nat)}{d:Defs×List A}{body:Qq}{c:Code}{k:Ex->St->Qq}{Q:Exit->Act->World->Prop}{why why':String}
  (hq:Zh (Qir Y) ann.lsts=some q) {σd:St} (hσd:σd=Qr6 Y c ann q)
  (hd:Qbu σd Y.nv ann.hav=some d) (ha:Qei ann.hav=true) (hun:Bg (Us q)=true)
  {σh:St} (hσh:σh=Zqj Y σd ann (Y.nv+d.1.length)) {σH:St} (hσH:σH=Qma σh Y.boxes.length (Y.nv+d.1.length+Zd ann.hav) ann.lsts)
  (hh:(Vw Y.nv d.1 (.loop (d.2++q.map (·.1)) (Qw5 ann.hav++ann.lsts.map fun h=>.lst h.k) (Y.nv+d.1.length) body)).holds T goal m.env)
  (hbody:∀ m' a' w' goal' Q',Rep w0 m' σH a' w'->σH.lvl=goal'.stk.length->body.holds T goal' m'.env ->
   (∀ e Y' m'' a'' w'' goal'',Ub goal' goal''->Y'.lvl=goal''.stk.length->MExt m' σH.nv σH.al m'' Y'.nv Y'.al->Rep w0 m'' Y' a'' w'' ->
    (match e with
     |.normal=>match Zan σh Y' ann.lsts with
      |none=>.bad 315 why
      |some as=>match Zao σh Y' (Y.nv+d.1.length) ann.hav with
       |some b=>Vw Y'.nv b.1 (.back Y.lvl (b.2++as))
       |none=>.bad 311 why'
     |e=>k e Y':Qq).holds T goal'' m''.env->Q' (Qf4 e) a'' w'')->c.wp P Q' a' w')
  (hQ:∀e Y' m' a' w' goal',Ub goal goal'->Y'.lvl=goal'.stk.length->MExt m Y.nv Y.al m' Y'.nv Y'.al->Rep w0 m' Y' a' w'->(k e Y').holds T goal' m'.env->Q (Qf4 e) a' w') :
  (Code.loop c).wp P Q a w:=by
 obtain⟨d1,d2⟩:=d;obtain⟨pos,hav,lsts⟩:=ann;simp only at hd ha hσh hσH hh hbody hq;obtain⟨hRd,D⟩:=Zgq hR c ⟨pos,hav,lsts⟩ q;rw[<- hσd]at hRd D;have Droom:∀j,j<lsts.length->σd.boxes[Y.boxes.length+j]?=some none:=D.room;obtain⟨t1,t2,t3⟩:=Qks (T:=T) hRd hav _ _ _ hd;obtain⟨g1,g2⟩:=t1 (by rw[D.nv];omega);obtain⟨e0,b1,b2,b3,b4⟩:=Xe _ _ _ hh g1;obtain⟨I,μ,i1,i2⟩:=b4;obtain⟨t4,_⟩:=t3 e0 (fun i hi=>b1 i (by rw[D.nv]at hi;omega)) b3;have hnv:σh.nv=Y.nv+d1.length+(Zd hav+lsts.length):=by rw[hσh];rfl
 have hhead:HeadOk σh (Y.nv+d1.length) hav:=by rw[hσh];exact Zmz hRd ha (by rw[D.nv];omega)
 have halh:σh.al=Y.al:=by rw[hσh];exact(Qpm hav _ _).trans D.al
 have hknh:σh.kn=Y.kn:=by rw[hσh];exact(Qcg hav _ _).1.trans D.kn
 have hglh:σh.gl=Y.gl:=by rw[hσh];exact(Qcg hav _ _).2.trans D.gl
 have hlenh:σh.tmps.length=σd.tmps.length:=by rw[hσh];exact(Qka hav _ _)
 have htmph:σh.tmps=(J6 σd (Y.nv+d1.length) hav).tmps:=by rw[hσh];rfl
 have hboxh:σh.boxes=(J6 σd (Y.nv+d1.length) hav).boxes:=by rw[hσh];rfl
 have hlvh:σh.lvl=Y.lvl+1:=by rw[hσh];rfl
 have hsl:=Qip ha;obtain⟨a1,a2,a3,a4⟩:=Qm9 lsts σh Y.boxes.length (Y.nv+d1.length+Zd hav);rw[<- hσH]at a1 a2 a3 a4;have hroom:∀j,j<lsts.length->σh.boxes[Y.boxes.length+j]?=some none:=fun j hj=>by
  have h1:=Qtw.1 (Droom j hj);rw[Qtw,halh,<- D.al];refine⟨?_,h1.2⟩;rw[hboxh,Qnt];exact h1.1
 obtain⟨q1,q2⟩:=Qdw hq
 let J:Nat->Act->World->Prop:=fun n a' w'=>∃(mr:M) (us:List Int),Q0 (Qw5 hav++lsts.map fun h=>.lst h.k) us/\I us/\μ us=n/\mr.env=Qag e0 (Y.nv+d1.length) us/\MExt m Y.nv Y.al mr σH.nv σH.al/\Rep w0 mr σH a' w'
 have hkn':∀(vs:List Int),∀p∈σh.kn,p.1<σh.nv/\decide (Qag e0 (Y.nv+d1.length) vs p.1≠0)=p.2:=by
  intro vs p hp;rw[hknh]at hp;obtain⟨h1,h2⟩:=hR.kn p hp;refine⟨by omega,?_⟩;rw[Vo _ _ _ _ (by omega),b1 _ h1];exact h2
 have heads:∀ {σs:St} {ms:M} {as':Act} {ws:World} {E e1:Nat->Int} {qs:List (A×Option Nat)} {ba:List A},Rep w0 ms σs as' ws->Zh (Qir σs) lsts=some qs->Bg (Us qs)=true ->
   Rep w0 {ms with env:=E } σh as' ws->FromRow ms {ms with env:=E } σs σh (Us qs)->(∀i,i<σs.nv->e1 i=ms.env i)->ba.length=Zd hav->Q0 (Qw5 hav) (ba.map (·.ev e1)) ->
   E=Qag e0 (Y.nv+d1.length) ((ba++qs.map (·.1)).map (·.ev e1))->MExt m Y.nv Y.al {ms with env:=E } σh.nv σh.al ->
   Q0 (Qw5 hav++lsts.map fun h=>.lst h.k) ((ba++qs.map (·.1)).map (·.ev e1))/\∃mr:M,mr.env=E/\MExt m Y.nv Y.al mr σH.nv σH.al/\Rep w0 mr σH as' ws:=by
  intro σs ms as' ws E e1 qs ba h1 h2 h3 h4 h5 h6 h7 h8 h9 h10;obtain⟨vs,l1,l2,l3⟩:=Zgo h1 h2 h3 h5;obtain⟨p1,p2⟩:=Qdw h2;have hE:∀(j:Nat) x o,qs[j]?=some (x,o)->x.wf σs.nv ms.env->E (Y.nv+d1.length+Zd hav+j)=x.ev ms.env:=fun j x o hj hx=>by
   rw[h9,Kn (Y.nv+d1.length)];rw[Qbn _ _ _ (Zd hav+j) (x.ev e1) (by
    rw[Kq,Mf (by rw[O8,h7];omega),O8,h7];simp[hj])]
   exact A.Xaq hx.1 h6
  refine⟨?_,?_⟩
  ·rw[Kq];refine Qch h8 (Qs2 _ _ (by simp[p1]) fun j h x hj hx=>?_);have hjl:j<vs.length:=by rw[l1];exact(Ow.1 hj).1
   obtain⟨y,o,k1,_,k3,k4,_⟩:=l3 j h _ hj (O1 hjl);simp[k1]at hx;rw[<- hx,A.Xaq k3.1 h6];exact k4
  ·obtain⟨mr,r1,r2,r3⟩:=Zhu lsts σh Y.boxes.length (Y.nv+d1.length+Zd hav) {ms with env:=E } vs h4 hroom l1 (fun j h v hj hv=>by
    obtain⟨x,o,k1,k2,k3,k4,k5,kf,k6⟩:=l3 j h v hj hv;have hjl:=(Ow.1 hj).1;have:=hE j x o k1 k3;refine⟨k2,by rw[hnv];omega,?_,?_,kf,k6⟩
    ·simp only[this];exact k4
    ·simp only[this];exact k5) l2
   rw[<- hσH]at r2 r3;exact⟨mr,r1,h10.trans r2,r3⟩
 have J0:J (μ ((d2++q.map (·.1)).map (·.ev e0))) a w:=by
  have hx0:MExt m Y.nv Y.al {m with env:=Qag e0 (Y.nv+d1.length) ((d2++q.map (·.1)).map (·.ev e0)) } σh.nv σh.al:=by
   refine⟨fun i hi=>?_,fun _ _=>rfl,rfl,fun _ _=>rfl,by omega,fun id hid=>by rw[halh];exact hid⟩;show Qag e0 _ _ i=_;rw[Vo _ _ _ _ (by omega),b1 i hi]
  have hrep:Rep w0 {m with env:=Qag e0 (Y.nv+d1.length) ((d2++q.map (·.1)).map (·.ev e0)) } σh a w:=by
   refine Qyy (T:=T) (n0:=Y.nv+d1.length) (N:=Y.nv) (e:=e0) hRd hd (fun i hi=>b1 i (by rw[D.nv]at hi;omega)) b3 ha (fun i hi=>?_) (fun i x hx=>Qbn _ _ _ _ _ ?_) (by omega) (by omega) hlenh (fun i s hi=>?_) (fun id b hb=>?_) (hkn' _) (fun p hp=>?_) (fun id b r hb hr=>?_)
   ·rw[Vo _ _ _ _ (by omega),b1 i hi]
   ·rw[Kq,Mm (Ow.1 hx).1];exact hx
   ·rw[htmph]at hi
    right
    refine⟨hi,?_⟩;rcases Qfc hav _ _ i s (Qqf ha) hi with⟨h1,_⟩|⟨j,ls,h1,_⟩|⟨j,h1,id,lo,hi',k,h2,h3⟩
    ·obtain⟨v,_,hr⟩:=hRd.tmp i s h1
     right;right
     have:=SV.Xa4 hr;rw[D.nv,D.al]at this;rw[halh];exact this
    ·exact .inl ⟨_,Mu h1,rfl⟩
    ·obtain⟨v,_,hr⟩:=hRd.tmp i _ h2;obtain⟨b1,b2,b3,_⟩:=(show C.rel m σd.nv σd.al (.slv id lo hi' k) v from hr)
     rw[D.nv]at b3;rw[D.al]at b1;exact .inr (.inl ⟨⟨_,Mu h1,rfl⟩,id,_,hi',k,h3,by rw[halh];exact b1,b3.1⟩)
   ·rw[hboxh]at hb;refine⟨hb,?_⟩;obtain⟨b0,h1,h2,h3,h4⟩:=Yn hav _ _ id b hsl hb;rcases h4 with⟨rfl,_⟩|⟨j,t,ls,h5,h6,_⟩
    ·right
     rw[halh,<- D.al];rw[<- D.nv];cases ho:b.own with
     |true=>obtain⟨_,_,vs,_,hr⟩:=hRd.own id b h1 ho;exact fun c hc=>Rels.okN hr c hc
     |false =>
      intro c hc;rcases hRd.ro id b h1 ho with h0|⟨_,hr⟩
      ·rw[h0]at hc;cases hc
      obtain⟨j,hj⟩:=Ht.1 hc;obtain⟨v,_,hv⟩:=hr j c hj;exact C.Xa4 hv
    ·exact .inl ⟨j,t,ls,h5,h6⟩
   ·rw[hglh]at hp;rw[halh];exact hR.gl p hp
   ·rw[hboxh]at hb;obtain⟨b0,h1,h2⟩:=Vs hav _ _ id b hb;obtain⟨r1,r2,_⟩:=hRd.rows id b0 r h1 (h2.symm.trans hr);rw[<- D.nv];exact⟨r1.1,r2.1⟩
  have hfr:FromRow m {m with env:=Qag e0 (Y.nv+d1.length) ((d2++q.map (·.1)).map (·.ev e0)) } Y σh (Us q):=by
   refine⟨fun id b hb ho=>?_,fun id b r hb hr ho=>?_⟩
   ·rw[hboxh]at hb;obtain⟨b0,h1,h2,_⟩:=Yn hav _ _ id b hsl hb;obtain⟨b',k1,k2,_⟩:=D.box id b0 h1;exact⟨b',k1,by rw[k2,<- h2];exact ho,rfl⟩
   ·rw[hboxh]at hb;obtain⟨b0,h1,h2⟩:=Vs hav _ _ id b hb;obtain⟨b',k1,k2,k3⟩:=D.box id b0 h1;have hr0:b0.row=some r:=h2.symm.trans hr;rcases k3 with k3|⟨k3,k4⟩
    ·rw[hr0]at k3;cases k3
    ·exact⟨k4,⟨b',k1,k3.trans hr0⟩,rfl⟩
  obtain⟨hk,mr,m1,m2,m3⟩:=heads hR hq hun hrep hfr (fun i hi=>b1 i hi) t2 t4 rfl hx0;exact⟨mr,_,hk,i1,rfl,m1,m2,m3⟩
 refine Qwd J J0 fun n a' w' hJ=>?_
 obtain⟨mr,vs,v2,v3,v4,v5,v6,v7⟩:=hJ;have hbh:=i2 vs v2 v3;rw[<- v5]at hbh;refine hbody mr a' w' _ _ v7 (by rw[a4,hlvh];simp[hlvl]) hbh fun e Y' m'' a'' w'' goal'' x1 x2 x3 x4 x5=>?_
 have xg:Ub goal goal'':=Ub.trans (g':={goal with stk:=goal.stk++[fun us=>I us/\μ us<μ vs] }) ⟨rfl,_,rfl⟩ x1;cases e with
 |exit id=>exact hQ (.exit id) Y' m'' a'' w'' goal'' xg x2 (v6.trans x3) x4 x5
 |ret=>exact hQ .ret Y' m'' a'' w'' goal'' xg x2 (v6.trans x3) x4 x5
 |normal =>
  simp only at x5;show ∃n',n'<n/\J n' a'' w'';cases hbl:Zan σh Y' lsts with
  |none=>rw[hbl]at x5;exact x5.elim
  |some as =>
  rw[hbl]at x5;simp only at x5;cases hb:Zao σh Y' (Y.nv+d1.length) hav with
  |none=>rw[hb]at x5;exact x5.elim
  |some bb =>
   rw[hb]at x5;simp only at x5;obtain⟨bd,ba⟩:=bb;unfold Zan at hbl;split at hbl
   ·cases hbl
   rename_i qs hqs;split at hbl
   case isFalse=>cases hbl
   rename_i hql;cases hbl;simp only[Oo,Ms,Option.isNone_iff_eq_none]at hql;unfold Zao at hb;split at hb
   ·cases hb
   ·rename_i dd hdd;simp only at hb;split at hb
    ·rename_i hcond;cases hb;simp only[Oo,Ms]at hcond;obtain⟨⟨c1,c2⟩,c3⟩:=hcond;obtain⟨c4,c5⟩:=Qm0 c1;have c6:=Qdn c2;obtain⟨u1,u2,u3⟩:=Qks (T:=T) x4 hav _ _ _ hdd;obtain⟨f1,f2⟩:=u1 (Nat.le_refl _);obtain⟨e1,k1,k2,k3,k4⟩:=Xe _ _ _ x5 f1;obtain⟨u4,_⟩:=u3 e1 (fun i hi=>k1 i hi) k3;have k5:I ((ba++qs.map (·.1)).map (·.ev e1))/\μ ((ba++qs.map (·.1)).map (·.ev e1))<μ vs:=by
      obtain⟨_,r,hr⟩:=x1;simp only[Qq.holds]at k4;rw[hr]at k4;have:(goal.stk++[fun us=>I us/\μ us<μ vs]++r)[Y.lvl]?=some (fun us=>I us/\μ us<μ vs):=by
       rw[hlvl,M8,Mf (Nat.le_refl _)];simp
      simp only[this]at k4;exact k4
     have hHnv:σH.nv=Y.nv+d1.length+(Zd hav+lsts.length):=a1.trans hnv;have hx:=v6.trans x3;have henv:∀i,i<Y.nv+d1.length->Qag e0 (Y.nv+d1.length) ((ba++qs.map (·.1)).map (·.ev e1)) i=m''.env i:=fun i hi=>by
      rw[Vo _ _ _ _ hi,x3.env i (by omega),v5,Vo _ _ _ _ hi]
     have hrep:Rep w0 {m'' with env:=Qag e0 (Y.nv+d1.length) ((ba++qs.map (·.1)).map (·.ev e1)) } σh a'' w'':=by
      refine Qyy (T:=T) (n0:=Y.nv+d1.length) (N:=Y.nv+d1.length) (e:=e1) x4 hdd (fun i hi=>k1 i hi) k3 ha henv (fun i x hx=>Qbn _ _ _ _ _ ?_) (by omega) (by omega) (by rw[c4,Qka]) (fun i s hi=>?_) (fun id b hb=>?_) (hkn' _) (fun p hp=>?_) hhead.row
      ·rw[Kq,Mm (Ow.1 hx).1];exact hx
      ·rcases c5 i s hi with h|h
       ·exact .inl h
       ·rcases hhead.tmp i s hi with h'|h'|h'|h'
        ·exact .inl h'
        ·exact .inr ⟨h,.inl h'⟩
        ·exact .inr ⟨h,.inr (.inl h')⟩
        ·exact .inr ⟨h,.inr (.inr h')⟩
      ·refine⟨c6 id b hb,?_⟩;rcases hhead.box id b hb with⟨j,t,ls,h1,h2⟩|h
       ·have:=c3 _ (Mu h1);simp only at this;exact .inl ⟨j,t,ls,h1,by rw[<- Qyo this];exact h2⟩
       ·exact .inr h
      ·rw[hglh]at hp;obtain⟨q1,q2⟩:=hR.gl p hp;exact⟨by rw[halh];exact q1,by rw[hx.rho _ q1];exact q2⟩
     have hfr:FromRow m'' {m'' with env:=Qag e0 (Y.nv+d1.length) ((ba++qs.map (·.1)).map (·.ev e1)) } Y' σh (Us qs):=by
      refine⟨fun id b hb ho=>?_,fun id b r hb hr ho=>?_⟩
      ·obtain⟨b0,h1,h2,_⟩:=Yn hav _ _ id b hsl (c6 id b hb);exact⟨b0,h1,by rw[<- h2];exact ho,rfl⟩
      ·obtain⟨b0,h1,h2⟩:=Vs hav _ _ id b (c6 id b hb);refine⟨fun hid=>?_,⟨b0,h1,h2.symm.trans hr⟩,rfl⟩;have:=hql.2 id hid;simp only[St.row,St.Xa2,hb,hr]at this;cases this
     have hx0:MExt m Y.nv Y.al {m'' with env:=Qag e0 (Y.nv+d1.length) ((ba++qs.map (·.1)).map (·.ev e1)) } σh.nv σh.al:=by
      refine⟨fun i hi=>?_,hx.rho,hx.ext,hx.sv,by omega,fun id hid=>by rw[halh];exact hid⟩;show Qag e0 _ _ i=_;rw[Vo _ _ _ _ (by omega),b1 i hi]
     obtain⟨hk,mr',m1,m2,m3⟩:=heads x4 hqs hql.1 hrep hfr (fun i hi=>k1 i hi) u2 u4 rfl hx0;exact⟨_,by rw[<- v4];exact k5.2,mr',_,hk,k5.1,rfl,m1,m2,m3⟩
    ·cases hb
theorem Qbj:∀(hav:List (Hp×List L)) {t id:Nat} {q:Row},Qhg Y hav=some (t,id,q)->Y.tmps[t]?=some (.vl (.one (.sl id)))/\Y.row id=some q
 |[],_,_,_,h=>by cases h
 |(hp,ls)::r,t,id,q,h=>by
  cases hp with
  |slot u=>exact Qbj r h
  |box u=>exact Qbj r h
  |view u =>
   simp only[Qhg]at h;split at h
   ·split at h
    ·rename_i id' ht _ q' hr;cases h;exact⟨ht,hr⟩
    ·exact Qbj r h
   ·exact Qbj r h
theorem Zl8(hR:Rep w0 m Y a w){hav:List (Hp×List L)}{g:Nat×Nat×Row}(hg:Qhg Y hav=some g){goal:Gl}{t:Qq}
  (hh:(Qq.l Y.nv (.int .i64) (.llen g.2.2.x0) t).holds T goal m.env) :
  ∃m',MExt m Y.nv Y.al m' (Qzb Y g).nv (Qzb Y g).al/\Rep w0 m' (Qzb Y g) a w/\t.holds T goal m'.env:=by
 obtain⟨u,id,q⟩:=g;obtain⟨h1,h2⟩:=Qbj _ hg;obtain⟨q1,q2,q5,q6,q3⟩:=hR.Xav h2;have hbig:=q3.1.1;have h3:=hh _ rfl (by show has .i64 _;simp only[D.ev,q6,has,lo,hi];omega);simp only[D.ev,q6]at h3;generalize hE:upd m.env Y.nv ((dec (A.ev m.env q.x)).length:Int)=E at h3;have hlow:∀i,i<Y.nv->E i=m.env i:=fun i hi=>by rw[<- hE];simp only[upd];rw[if_neg (by omega)]
 have hat:E Y.nv=((dec (A.ev m.env q.x)).length:Int):=by rw[<- hE];simp[upd]
 have hnm:=hR.names E hlow (Y.nv+1) (by omega);refine⟨{m with env:=E },⟨hlow,fun _ _=>rfl,rfl,fun _ _=>rfl,by show Y.nv<=Y.nv+1;omega,fun _ h=>h⟩,?_,h3⟩;obtain⟨v,hv,hr⟩:=hnm.tmp u _ h1;refine hnm.Xb4 hv ?_;have hr:C.rel {m with env:=E } (Y.nv+1) Y.al (.sl id) v:=hr;obtain⟨r1,r2,r3⟩:=hr;obtain⟨b,cap,hsv⟩:=q3.len;refine⟨r1,⟨trivial,trivial⟩,⟨by show Y.nv<Y.nv+1;omega,trivial⟩,?_,?_,r3⟩
 ·show(0:Int)<=0/\0<=E Y.nv/\E Y.nv<=((Xbh (m.sv id):Nat):Int)/\E Y.nv<=9223372036854775807;rw[hat,q3.Xbh];omega
 ·left
  show v=Up q.k.sz (m.sv id) 0 (E Y.nv).toNat;rw[hat,r2,Mi];show m.sv id=_;rw[hsv,We]
theorem Zbw(hm:P.follows .mixedOrders=true)(hT:∀(g:Nat) X,T[g]?=some X->X.Xbm P w0):∀n,Zw0 P T LA w0 n:=by
 intro n
 induction n with
 |zero=>intro job Y k m a w goal Q _ _ hh _;exact hh.elim
 |succ n ih =>
  intro job Y k m a w goal Q hR hl hh hK
  have again:∀ {job':Job} {v:Nat} {k':Ex->St->Qq} {Q':Exit->Act->World->Prop},v<Y.nv->(Qq.split v (run P T LA n job' (Y.Xbe v true) k') (run P T LA n job' (Y.Xbe v false) k')).holds T goal m.env ->
    (∀e Y' m' a' w' goal',Ub goal goal'->Y'.lvl=goal'.stk.length->MExt m Y.nv Y.al m' Y'.nv Y'.al->Rep w0 m' Y' a' w'->(k' e Y').holds T goal' m'.env->Q' (Qf4 e) a' w')->Zq9 P n Q' job' a w:=by
   intro job' v k' Q' hv hs hk;rcases knows hR hs hv with⟨h1,h2,_⟩|⟨h1,h2,_⟩
   ·exact ih job' _ _ _ _ _ _ _ h1 hl h2 hk
   ·exact ih job' _ _ _ _ _ _ _ h1 hl h2 hk
  cases job with
  |rounds c =>
   show c.wp P (Exit.then (Code.rounds P c Q n) Q) a w;refine ih (.code c) _ _ _ _ _ _ _ hR hl hh fun e Y' m' a' w' goal' x1 x2 x3 x4 x5=>?_
   cases e with
   |normal=>exact ih (.rounds c) _ _ _ _ _ _ _ x4 x2 x5 fun e Y'' m'' a'' w'' goal'' y1 y2 y3 y4 y5=>hK e Y'' m'' a'' w'' goal'' (x1.trans y1) y2 (x3.trans y3) y4 y5
   |exit id=>exact hK (.exit id) _ _ _ _ _ x1 x2 x3 x4 x5
   |ret=>exact hK .ret _ _ _ _ _ x1 x2 x3 x4 x5
  |ops all l =>
   cases l with
   |nil=>exact hK .normal _ _ _ _ _ (Ub.refl _) hl (MExt.refl ..) hR hh
   |cons o rest =>
    obtain⟨g1,g2⟩:=Qjt hR (all:=all) (o:=o);simp only[run]at hh
    have hrest:∀ {σ1:St} {m1:M} {a1:Act} {w1:World} {goal1:Gl},Rep w0 m1 σ1 a1 w1->σ1.lvl=goal1.stk.length->Ub goal goal1->MExt m Y.nv Y.al m1 σ1.nv σ1.al->(run P T LA n (.ops all rest) σ1 k).holds T goal1 m1.env->wpList P all Q rest a1 w1 :=
     fun h1 h2 h3 h4 h5=>ih (.ops all rest) _ _ _ _ _ _ _ h1 h2 h5 fun e Y'' m'' a'' w'' goal'' y1 y2 y3 y4 y5=>hK e Y'' m'' a'' w'' goal'' (h3.trans y1) y2 (h4.trans y3) y4 y5
    cases hg:Zs all Y o with
    |bad=>rw[hg]at hh;exact hh.elim
    |need v =>
     rw[hg]at hh;simp only at hh;split at hh
     ·rename_i hv;exact again (job':=.ops all (o::rest)) hv hh hK
     ·exact hh.elim
    |no =>
     rw[hg]at hh;show if Region.wanted o (yielded all a.tmps)then _ else _
     rw[if_neg (by rw[g2 hg];simp)];have hp:=hR.put (s:=Y3) (v:=undef) ⟨[],rfl,trivial⟩ o.dst;have hal:(Y.put o.dst Y3).al=Y.al:=by funext id;unfold St.al;rw[(Z1 _ _ _).2.1]
     have hn:(Y.put o.dst Y3).nv=Y.nv:=(Z1 _ _ _).1;exact hrest hp (by rw[(Z1 _ _ _).2.2.2.2.1];exact hl) (Ub.refl _) (by rw[hal,hn];exact MExt.refl ..) hh
    |yes =>
     rw[hg]at hh;simp only at hh;obtain⟨r1,r2,r3,r4,r5⟩:=Zlx hR o.op;have wl:o.wp P a w (wpList P all Q rest) Q->wpList P all Q (o::rest) a w:=fun h=>by
      show if Region.wanted o (yielded all a.tmps)then _ else _
      rw[if_pos (g1 hg)];exact .inl h
     cases hfz:Qd9 P Y Y.nv o.op with
     |some g =>
      rw[hfz]at hh;simp only at hh;obtain⟨m',y1,y2,y3⟩:=Zdn hR hfz hh;exact ih (.ops all (o::rest)) _ _ _ _ _ _ _ y2 hl y3 fun e Y'' m'' a'' w'' goal'' z1 z2 z3 z4 z5=>hK e Y'' m'' a'' w'' goal'' z1 z2 (y1.trans z3) z4 z5
     |none =>
     rw[hfz]at hh;simp only at hh;cases hgr:Qnm P (room Y o.op) Y.nv o.op with
     |some g =>
      rw[hgr]at hh;simp only at hh;have hmay:Qkm o.op=true:=by
       unfold Qnm at hgr;split at hgr
       ·rename_i c hc;rw[hc];rfl
       ·cases hgr
      rw[<- r2]at hgr hh;refine wl (Zn7 r1 (r5 hmay) hgr hh fun m' a' w' x3 x4 x5=>?_);rw[r2,r4]at x3;have hlv:(Qg0 (room Y o.op) Y.boxes.length g o.dst).lvl=goal.stk.length:=by
       unfold Qg0;rw[(Z1 _ _ _).2.2.2.2.1];exact r3.trans hl
      exact hrest x4 hlv (Ub.refl _) x3 x5
     |none =>
     rw[hgr]at hh;simp only at hh;cases hmk:Qmi P (room Y o.op) o.op with
     |some g =>
      rw[hmk]at hh;simp only at hh;have hmay:Qkm o.op=true:=by
       unfold Qmi at hmk;split at hmk
       ·rename_i t l c hc;rw[hc];rfl
       ·cases hmk
      rw[<- r2]at hh;refine wl (Zol r1 (r5 hmay) hmk hh fun m' a' w' x3 x4 x5=>?_);rw[r2,r4]at x3;have hlv:(Qgx (room Y o.op) Y.boxes.length g o.dst).lvl=goal.stk.length:=by
       unfold Qgx;rw[(Z1 _ _ _).2.2.2.2.1];exact r3.trans hl
      exact hrest x4 hlv (Ub.refl _) x3 x5
     |none =>
     rw[hmk]at hh;simp only at hh;cases hcp:Qtj P (room Y o.op) Y.nv o.op with
     |some g =>
      rw[hcp]at hh;simp only at hh;rw[<- r2]at hcp hh;refine wl (Zlq r1 hcp hh fun m' a' w' x3 x4 x5=>?_);rw[r2,r4]at x3;have hlv:(Qhh (room Y o.op) g o.dst).lvl=goal.stk.length:=by
       unfold Qhh;rw[(Z1 _ _ _).2.2.2.2.1];exact r3.trans hl
      exact hrest x4 hlv (Ub.refl _) x3 x5
     |none =>
     rw[hcp]at hh;simp only at hh;cases hp:Qy P T (room Y o.op) Y.nv Y.boxes.length o.op with
     |bad why=>rw[hp]at hh;exact hh.elim
     |need v =>
      rw[hp]at hh;simp only at hh;split at hh
      ·rename_i hv;exact again (job':=.ops all (o::rest)) hv hh hK
      ·exact hh.elim
     |ok p =>
      rw[hp]at hh;simp only at hh;refine wl (Zmt hT r1 hp (by rw[r2];exact Nat.le_refl _) (fun hn=>r5 (Zky hp hn)) (Y.nv+p.defs.length+p.post.length) (Nat.le_refl _) hh fun m' a' w' _ _ x3 x4 x5=>?_);rw[r2,r4]at x3;exact hrest x4 (by rw[(Qbf _ _ _ _).2.2];exact r3.trans hl) (Ub.refl _) (by rw[(Qbf _ _ _ _).2.1];exact x3) x5
     |call f args =>
      rw[hp]at hh;simp only at hh;cases hf:P.funcs[f]? with
      |none=>rw[hf]at hh;exact hh.elim
      |some fn =>
       rw[hf]at hh;simp only at hh;cases hb:fn.body with
       |none=>rw[hb]at hh;exact hh.elim
       |some c =>
        rw[hb]at hh;simp only at hh;split at hh
        ·exact hh.elim
        ·rename_i hnm;obtain⟨us,u1,u2⟩:=Zb4 r1 hp;rw[r2,r4]at u1;refine wl ?_;unfold Oper.wp;rw[u2,Qej hf (by simpa using hnm) hb];refine calls_of_wp hf hb ?_;have hin:=Qn0 hR u1 fn.ntmps;refine ih (.code c) _ _ _ _ _ _ _ hin hl hh fun e Y' m' a' w' goal' x1 x2 x3 x4 x5=>?_
         have key:e=.normal∨e=.ret->bodyPost P fn (fun e w'=>match e with|.returned v=>wpList P all Q rest (a.put o.dst v) w'|.panicked chain=>Q (.panic chain) a w'|.outgrown=>Q .outgrown a w') (Qf4 e) a' w':=by
          intro he;have x6:(match Qud P Y' fn with|some vs=>run P T LA n (.ops all rest) ({Y' with tmps:=Y.tmps }.put o.dst (Qc3 vs)) k|none=>.bad 307 o.pos).holds T goal' m'.env:=by
           rcases he with rfl|rfl <;> exact x5
          cases hrs:Qud P Y' fn with
          |none=>rw[hrs]at x6;exact x6.elim
          |some vs =>
           rw[hrs]at x6;simp only at x6;obtain⟨zs,z1,z2⟩:=Zj0 x4 hrs;have hback:=(hR.back x4 x3).put (s:=Qc3 vs) (v:=Qho zs) (Qoe z2) o.dst;have hal:(({Y' with tmps:=Y.tmps }:St).put o.dst (Qc3 vs)).al=Y'.al:=by funext id;unfold St.al;rw[(Z1 _ _ _).2.1]
           have hn:(({Y' with tmps:=Y.tmps }:St).put o.dst (Qc3 vs)).nv=Y'.nv:=(Z1 _ _ _).1;have hgo:=hrest hback (by rw[(Z1 _ _ _).2.2.2.2.1];exact x2) x1 (by rw[hal,hn];exact x3) x6;have hd:=x4.defers;rcases he with rfl|rfl <;> exact⟨hd,Qho zs,z1,hgo⟩
         cases e with
         |normal=>exact key (.inl rfl)
         |ret=>exact key (.inr rfl)
         |exit id=>exact x5.elim
  |code c =>
   show c.wp P Q a w;cases c with
   |skip=>exact wp_skip (hK .normal _ _ _ _ _ (Ub.refl _) hl (MExt.refl ..) hR hh)
   |label l=>exact wp_label (hK .normal _ _ _ _ _ (Ub.refl _) hl (MExt.refl ..) hR hh)
   |exit id=>exact wp_exit (hK (.exit id) _ _ _ _ _ (Ub.refl _) hl (MExt.refl ..) hR hh)
   |ret=>exact wp_ret (hK .ret _ _ _ _ _ (Ub.refl _) hl (MExt.refl ..) hR hh)
   |seq x y =>
    refine wp_seq (ih (.code x) _ _ _ _ _ _ _ hR hl hh fun e Y' m' a' w' goal' x1 x2 x3 x4 x5=>?_);cases e with
    |normal=>exact ih (.code y) _ _ _ _ _ _ _ x4 x2 x5 fun e Y'' m'' a'' w'' goal'' y1 y2 y3 y4 y5=>hK e Y'' m'' a'' w'' goal'' (x1.trans y1) y2 (x3.trans y3) y4 y5
    |exit id=>exact hK (.exit id) _ _ _ _ _ x1 x2 x3 x4 x5
    |ret=>exact hK .ret _ _ _ _ _ x1 x2 x3 x4 x5
   |block id c =>
    refine wp_block (ih (.code c) _ _ _ _ _ _ _ hR hl hh fun e Y' m' a' w' goal' x1 x2 x3 x4 x5=>?_);cases e with
    |normal=>exact hK .normal _ _ _ _ _ x1 x2 x3 x4 x5
    |ret=>exact hK .ret _ _ _ _ _ x1 x2 x3 x4 x5
    |exit id' =>
     show if id'=id then Q .normal a' w' else Q (.exit id') a' w'
     simp only at x5;by_cases hid:id'=id
     ·rw[if_pos hid];rw[if_pos (by simpa using hid)]at x5;exact hK .normal _ _ _ _ _ x1 x2 x3 x4 x5
     ·rw[if_neg hid];rw[if_neg (by simpa using hid)]at x5;exact hK (.exit id') _ _ _ _ _ x1 x2 x3 x4 x5
   |cond c x y =>
    simp only[run]at hh;cases hc:Y.cell c with
    |none=>rw[hc]at hh;exact hh.elim
    |some cc =>
     rw[hc]at hh;cases cc with
     |bool t =>
      simp only at hh;obtain⟨_,_,hv⟩:=hR.cell hc;obtain⟨t1,t2⟩:=hR.Xa1 (x:=t);cases ht:Xa1 Y t with
      |bad=>rw[ht]at hh;exact hh.elim
      |yes =>
       rw[ht]at hh;exact wp_cond_true (by rw[hv];simp[t1 ht]) (ih (.code x) _ _ _ _ _ _ _ hR hl hh hK)
      |no =>
       rw[ht]at hh;exact wp_cond_false (by rw[hv];simp[t2 ht]) (ih (.code y) _ _ _ _ _ _ _ hR hl hh hK)
      |need v =>
       rw[ht]at hh;simp only at hh;have:=Qvo ht;subst this;split at hh
       ·rename_i hlt;rcases knows hR hh hlt with⟨h1,h2,h3⟩|⟨h1,h2,h3⟩
        ·exact wp_cond_true (by rw[hv];simp[A.ev,h3]) (ih (.code x) _ _ _ _ _ _ _ h1 hl h2 hK)
        ·exact wp_cond_false (by rw[hv];simp[A.ev,h3]) (ih (.code y) _ _ _ _ _ _ _ h1 hl h2 hK)
       ·exact hh.elim
     |_=>exact hh.elim
   |region id ops draw =>
    simp only[run]at hh;cases draw with
    |false=>exact wp_region_list (ih (.ops ops ops.toList) _ _ _ _ _ _ _ hR hl hh hK)
    |true =>
     simp only[if_true]at hh;split at hh
     ·rename_i q htl;split at hh
      ·rename_i hd;refine Zby hm hT hR htl hd hh (fun m' a' w' σ0 Y' h1 h2 h3 h4 h5 h6=>by
        split at h6
        case isFalse=>exact h6.elim
        have hr:=Qfd (q.1.filterMap (·.dst)) h2;obtain⟨s1,s2,s3,s4,s5,s6⟩:=Qde (q.1.filterMap (·.dst)) σ0;have hdp:Ye Y' (q.1.filterMap (·.dst))=Ye σ0 (q.1.filterMap (·.dst)):=by
         rw[<- h3];exact Qkq _ _ _ fun o ho t hd=>List.mem_filterMap.2 ⟨o,ho,hd⟩
        rw[hdp]at h6;have hal:(Ye σ0 (q.1.filterMap (·.dst))).al=σ0.al:=by funext i;unfold St.al;rw[s2]
        have hlv:σ0.lvl=Y'.lvl:=by rw[<- h3];exact(Qmx _ _).2.symm
        exact ih (.ops ops q.1) _ _ _ _ _ _ _ hr (by rw[s5,hlv,h5];exact hl) h6 fun e Y'' m'' a'' w'' goal'' y1 y2 y3 y4 y5=>hK e Y'' m'' a'' w'' goal'' y1 y2 (h1.trans (by rw[s1,hal]at y3;exact y3)) y4 y5) (fun Y' E h=>by split at h <;> first|assumption|exact h.elim)
      ·exact hh.elim
     split at hh
     ·rename_i hd;refine Zoi hm hT hR hd hh (fun m' a' w' Y' h1 h2 h3 h4=>by
       split at h4
       case isFalse=>exact h4.elim
       exact hK .normal _ _ _ _ _ (Ub.refl _) (h3.trans hl) h1 h2 h4) (fun Y' E h=>by split at h <;> first|assumption|exact h.elim)
     ·exact hh.elim
   |loop c =>
    simp only[run]at hh;cases hf:Qow LA (Code.Xa6 c)with
    |none =>
     rw[hf]at hh;exact wp_loop_rounds n (ih (.rounds c) _ _ _ _ _ _ _ hR hl hh hK)
    |some ann =>
     rw[hf]at hh;simp only at hh;cases hvp:Qhg Y ann.hav with
     |some g =>
      rw[hvp]at hh;obtain⟨m',y1,y2,y3⟩:=Zl8 hR hvp hh;exact ih (.code (.loop c)) _ _ _ _ _ _ _ y2 hl y3 fun e Y'' m'' a'' w'' goal'' z1 z2 z3 z4 z5=>hK e Y'' m'' a'' w'' goal'' z1 z2 (y1.trans z3) z4 z5
     |none =>
     rw[hvp]at hh;simp only at hh;split at hh
     ·exact hh.elim
     rename_i q hq;split at hh
     ·exact hh.elim
     ·rename_i d hd;split at hh
      ·rename_i ha;simp only[Oo]at ha;refine Zon hR hl hq rfl hd ha.1 ha.2 rfl rfl hh (fun m' a' w' goal' Q' y1 y2 y3 y4=>ih (.code c) _ _ _ _ _ _ _ y1 y2 y3 y4) hK
      ·exact hh.elim
   |_=>exact hh.elim
end
def Zab:L->Bool|.lst _=>false|.arr _ n=>decide (0<n)|_=>true
def Qhn:Sh->Bool
 |.one l=>okL l
 |.agg ls=>ls.all okL
 |.ptr ls=>ls.all okL && !ls.isEmpty&&ls.all Zab
 |.lst _=>true
 |.lent _=>true
 |.ll=>true
def Zfi:Value->Nat×Nat
 |.pointer (some p)=>(p.block,p.off)
 |_=>(0,0)
def Qcl:List Sh->List Value->List (Nat×Nat)
 |.ptr _::ss,v::vs=>Zfi v::Qcl ss vs
 |.lst _::ss,_::vs=>(0,0)::Qcl ss vs
 |.lent _::ss,_::vs=>(0,0)::Qcl ss vs
 |_::ss,_::vs=>Qcl ss vs
 |_,_=>[]
def Qoi:Value->Value
 |.slice b _ c=>.slice b c c
 |v=>v
def Qhv:List Sh->List Value->List Value
 |.ptr _::ss,v::vs=>v::Qhv ss vs
 |.lst _::ss,v::vs=>v::Qhv ss vs
 |.lent _::ss,v::vs=>Qoi v::Qhv ss vs
 |_::ss,_::vs=>Qhv ss vs
 |_,_=>[]
section
variable {P:Program}{T:List K}{LA:List Ann}{w:World}
theorem Ze8:∀(ls:List L) (xs:List Int),ls.all okL=true->ls.all Zab=true->ls≠[]->Xq ls xs->Z2 ls xs≠[]
 |[],_,_,_,h,_=>absurd rfl h
 |.lst k::ls,_,_,h,_,_=>by simp[Zab]at h
 |.cst c::ls,_,h,_,_,_=>by simp[Z2]
 |.int k::ls,[],_,_,_,h=>h.elim
 |.bool::ls,[],_,_,_,h=>h.elim
 |.num::ls,[],_,_,_,h=>h.elim
 |.int k::ls,x::xs,_,_,_,_=>by simp[Z2]
 |.bool::ls,x::xs,_,_,_,_=>by simp[Z2]
 |.num::ls,x::xs,_,_,_,_=>by simp[Z2,Jw]
 |.arr k n::ls,[],_,_,_,h=>h.elim
 |.arr k n::ls,x::xs,_,h,_,h'=>by
  have h1:0<n:=by simp[Zab]at h;omega
  have h2:(dec x).length=n:=h'.1.2;intro h3;have h4:=congrArg List.length h3;simp only[Z2,O2,O8,O5]at h4;omega
theorem Zad{p:Addr}{v:Value}(h:w.cell? p=some v):p.block<w.heap.size:=by
 unfold World.cell? at h;cases hb:w.heap[p.block]? with
 |none=>rw[hb]at h;cases h
 |some b=>exact(L9.1 hb).1
theorem Zwr:∀(ins:List Sh) (xs:List Int) (args:List Value) (nn id:Nat),ins.all Qhn=true->J4 w ins xs args->∀(m:M) (nv:Nat) (al:Nat->Bool),m.ext.base=w->(∀(i:Nat) x,xs[i]?=some x->m.env (nn+i)=x)->nn+Xk ins<=nv ->
  (∀(j:Nat) p,(Qcl ins args)[j]?=some p->m.rho (id+j)=p)->(∀j,j<(Yc nn id ins).2.length->al (id+j)=true)->(∀(j:Nat) v,(Qhv ins args)[j]?=some v->m.sv (id+j)=v) ->
  Zi m nv al (Yc nn id ins).1 args/\∀(j:Nat) b,(Yc nn id ins).2[j]?=some (some b)->b.own=false/\(b.cells=[]∨(m.rho (id+j)).1<w.heap.size/\∀(i:Nat) c,b.cells[i]?=some c->∃v,w.cell? (m.at (id+j) i)=some v/\c.rel m nv al v) /\
   ∀r,b.row=some r->r.x.wf nv m.env/\r.x0=r.x/\RowAt w w r (m.sv (id+j)) (dec (r.x.ev m.env))/\r.own=false:=by
 intro ins
 induction ins with
 |nil=>intro xs args nn id _ h m nv al _ _ _ _ _ _;obtain⟨_,rfl⟩:=h;exact⟨trivial,by simp[Yc]⟩
 |cons s ss ih =>
  intro xs args nn id hok h m nv al hbs he hnv hrho hal hsv;cases args with
  |nil=>exact h.elim
  |cons u args =>
   obtain⟨h1,h2,h3⟩:=h;simp only[L1,Oo]at hok;obtain⟨ho,hok⟩:=hok;have het:∀(i:Nat) x,(xs.take (Qs s.leaves))[i]?=some x->m.env (nn+i)=x:=fun i x hx=>he i x (Qla hx)
   have hed:∀(i:Nat) x,(xs.drop (Qs s.leaves))[i]?=some x->m.env (nn+Qs s.leaves+i)=x:=fun i x hx=>by
    rw[Hr]at hx;have:=he _ x hx;rwa[<- Kn]at this
   have hnv1:nn+Qs s.leaves<=nv:=by simp only[Xk]at hnv;omega
   have hnv2:nn+Qs s.leaves+Xk ss<=nv:=by simp only[Xk]at hnv;omega
   cases s with
   |one l =>
    obtain⟨r1,r2⟩:=ih _ args (nn+Qs [l]) id hok h3 m nv al hbs hed hnv2 hrho hal hsv;refine⟨⟨?_,r1⟩,r2⟩;have:=Qpt (m:=m) (nv:=nv) (al:=al) [l] nn _ (by simpa[Qhn]using ho) h1 het hnv1;have h2':[u]=Z2 [l] (xs.take (Qs [l])):=h2;rw[Sh.leaves]at this;rw[<- h2']at this;cases hin:U3 nn [l]with
    |nil=>rw[hin]at this;exact this.elim
    |cons c cs=>rw[hin]at this;exact this.1
   |agg ls =>
    obtain⟨r1,r2⟩:=ih _ args (nn+Qs ls) id hok h3 m nv al hbs hed hnv2 hrho hal hsv;refine⟨⟨?_,r1⟩,r2⟩;exact⟨_,h2,Qpt (m:=m) (nv:=nv) (al:=al) ls nn _ (by simpa[Qhn]using ho) h1 het hnv1⟩
   |ptr ls =>
    obtain⟨b,off,rfl,h4⟩:=h2;simp only[Qhn,Oo]at ho;obtain⟨ho,hnl⟩:=ho;have hls:ls≠[]:=by have:=ho.2;cases ls <;> simp_all
    obtain⟨r1,r2⟩:=ih _ args (nn+Qs ls) (id+1) hok h3 m nv al hbs hed hnv2 (fun j p hp=>by
     have:=hrho (j+1) p (by simpa[Qcl]using hp);rwa[show id+(j+1)=id+1+j by omega]at this) (fun j hj=>by
     have:=hal (j+1) (by simp[Yc];exact hj);rwa[show id+(j+1)=id+1+j by omega]at this) (fun j v hv=>by
     have:=hsv (j+1) v (by simpa[Qhv]using hv);rwa[show id+(j+1)=id+1+j by omega]at this)
    have hr0:m.rho id=(b,off):=by simpa[Zfi]using hrho 0 (b,off) (by simp[Qcl,Zfi])
    have ha0:al id=true:=by simpa using hal 0 (by simp[Yc])
    refine⟨⟨⟨ha0,by simp[M.at,hr0]⟩,r1⟩,fun j bx hj=>?_⟩;cases j with
    |zero =>
     simp[Yc]at hj;subst hj;have hin:=Qpt (m:=m) (nv:=nv) (al:=al) ls nn _ ho.1 h1 het hnv1;refine⟨rfl,.inr ⟨?_,fun i c hc=>?_⟩,fun r hr=>by cases hr⟩
     ·simp only[Mk,hr0];cases hlv:Z2 ls (xs.take (Qs ls))with
      |nil=>exact absurd hlv (Ze8 ls _ ho.1 hnl hls h1)
      |cons v vs=>exact Zad (h4 0 v (by rw[Sh.leaves,hlv];rfl))
     ·obtain⟨v,hv,hr⟩:=hin.get i c hc;exact⟨v,by simp only[Mk,M.at,hr0];exact h4 i v hv,hr⟩
    |succ j =>
     have:=r2 j bx (by simpa[Yc]using hj);rwa[show id+1+j=id+(j+1) by omega]at this
   |lst k =>
    obtain⟨r1,r2⟩:=ih _ args (nn+1) (id+1) hok h3 m nv al hbs hed hnv2 (fun j p hp=>by
     have:=hrho (j+1) p (by simpa[Qcl]using hp);rwa[show id+(j+1)=id+1+j by omega]at this) (fun j hj=>by
     have:=hal (j+1) (by simp[Yc];exact hj);rwa[show id+(j+1)=id+1+j by omega]at this) (fun j v hv=>by
     have:=hsv (j+1) v (by simpa[Qhv]using hv);rwa[show id+(j+1)=id+1+j by omega]at this)
    have ha0:al id=true:=by simpa using hal 0 (by simp[Yc])
    have hs0:m.sv id=u:=by simpa using hsv 0 u (by simp[Qhv])
    have hro:RoRow w w k u (dec ((xs.take 1).headD 0)):=h2;have hhas:Xq [.lst k] (xs.take 1):=h1;cases xs with
    |nil=>exact hhas.elim
    |cons x xs =>
     have hx:m.env nn=x:=by simpa using he 0 x rfl
     have hro:RoRow w w k u (dec x):=hro;have hone:u.oneCell'=true:=by
      rcases hro with⟨hv,_⟩|⟨ad,cap,hv,_⟩ <;> rw[hv] <;> rfl
     refine⟨⟨⟨ha0,hs0.symm,hone⟩,r1⟩,fun j bx hj=>?_⟩;cases j with
     |zero =>
      simp[Yc]at hj;subst hj;refine⟨rfl,.inl rfl,fun r hr=>?_⟩;simp only[Zc,Option.some.injEq]at hr;subst hr;refine⟨⟨show nn<nv by have:nn+1<=nv:=hnv1;omega,trivial⟩,rfl,?_,rfl⟩;show RowAt w w _ (m.sv (id+0)) (dec (m.env nn));rw[Mk,hs0,hx];exact⟨hhas.1,hro,fun h=>by cases h⟩
     |succ j =>
      have:=r2 j bx (by simpa[Yc]using hj);rwa[show id+1+j=id+(j+1) by omega]at this
   |ll =>
    obtain⟨r1,r2⟩:=ih _ args (nn+1) id hok h3 m nv al hbs hed hnv2 hrho hal hsv;refine⟨⟨?_,r1⟩,r2⟩;cases xs with
    |nil=>exact h1.elim
    |cons x xs =>
     have hx:m.env nn=x:=by simpa using he 0 x rfl
     have hro:Qa2 w u (dec x):=h2;refine⟨⟨show nn<nv by have:nn+1<=nv:=hnv1;omega,trivial⟩,?_,?_⟩
     ·show Qa2 m.ext.base u (dec (m.env nn));rw[hbs,hx];exact hro
     ·rcases hro.2 with⟨hv,_⟩|⟨ad,cap,hv,_⟩ <;> rw[hv] <;> rfl
   |lent k =>
    obtain⟨r1,r2⟩:=ih _ args (nn+2) (id+1) hok h3 m nv al hbs hed hnv2 (fun j p hp=>by
     have:=hrho (j+1) p (by simpa[Qcl]using hp);rwa[show id+(j+1)=id+1+j by omega]at this) (fun j hj=>by
     have:=hal (j+1) (by simp[Yc];exact hj);rwa[show id+(j+1)=id+1+j by omega]at this) (fun j v hv=>by
     have:=hsv (j+1) v (by simpa[Qhv]using hv);rwa[show id+(j+1)=id+1+j by omega]at this)
    have ha0:al id=true:=by simpa using hal 0 (by simp[Yc])
    have hs0:m.sv id=Qoi u:=by simpa using hsv 0 (Qoi u) (by simp[Qhv])
    have hnv1':nn+2<=nv:=hnv1
    match xs,h1,h2,he with
    |[],h1,_,_=>exact h1.elim
    |[x],h1,_,_=>exact h1.2.elim
    |x::n::xs,h1,h2,he =>
     have hx:m.env nn=x:=by simpa using he 0 x rfl
     have hn:m.env (nn+1)=n:=he 1 n rfl;have h2:Qc6 k (fun v'=>RoRow w w k v' (dec x)) (dec x) n u:=h2;have h1:k.hasL (dec x)/\has .i64 n/\True:=h1;obtain⟨v',o1,o2,o3,o4⟩:=h2;obtain⟨bb,cap,hform⟩:∃bb cap,v'=.slice bb (dec x).length cap:=by
      rcases o1 with⟨hv,hl⟩|⟨ad,cap,hv,_⟩
      ·exact⟨none,0,by rw[hv,hl];rfl⟩
      ·exact⟨_,cap,hv⟩
     have hcap:(dec x).length=cap:=by rw[hform]at o2;exact o2
     have huf:Qoi u=v':=by rw[o4,hform,We,hcap];rfl
     have hbig:=h1.2.1;simp only[has,lo,hi]at hbig;refine⟨⟨⟨ha0,⟨trivial,trivial⟩,⟨show nn+1<nv by omega,trivial⟩,?_,?_,?_⟩,r1⟩,fun j bx hj=>?_⟩
     ·simp only[A.ev,hn,hs0,huf];rw[hform];exact⟨Int.le_refl _,o3.1,o3.2,hbig.2⟩
     ·simp only[A.ev,hn,hs0,huf];exact .inl o4
     ·rw[o4];exact Qii (by rw[hform];rfl)
     ·cases j with
      |zero =>
       simp[Yc]at hj;subst hj;refine⟨rfl,.inl rfl,fun r hr=>?_⟩;simp only[Zc,Option.some.injEq]at hr;subst hr;refine⟨⟨show nn<nv by omega,trivial⟩,rfl,?_,rfl⟩;show RowAt w w _ (m.sv (id+0)) (dec (m.env nn));rw[Mk,hs0,huf,hx];exact⟨h1.1,o1,fun _=>o2⟩
      |succ j =>
       have:=r2 j bx (by simpa[Yc]using hj);rwa[show id+1+j=id+(j+1) by omega]at this
theorem Zbe{w:World}{n0:Nat}{e:TypeId}{k:LK}{v:Value}{l:List Int}(h:w.ownsRow n0 e k.sz v l.length (flat k l)){hi:Nat}(hle:hi<=l.length) :
  w.ownsRow n0 e k.sz (Up k.sz v 0 hi) (l.take hi).length (flat k (l.take hi)):=by
 refine⟨Um _ _,?_⟩;rcases h.2 with⟨hv,hn⟩|⟨g,cap,cur,hv,h1,h2,h3,h4,h5,h6⟩
 ·have:hi=0:=by omega
  subst this;exact .inl ⟨by rw[hv];rfl,by simp⟩
 ·have hl:(l.take hi).length=hi:=by rw[O6];omega
  refine .inr ⟨g,cap,cur,by rw[hv,We,hl],h1,h2,by omega,h4,h5,?_⟩;rw[Bo,<- h6,hl,List.take_take,Hw (Ko _ hle)]
theorem Qs8{w0:World}{Y:St}{a:Act}:∀(os:List Oh) (vs:List V) (nn:Nat) (ds:Defs) (as:List A),Jt Y nn os vs=some (ds,as)->∀ {m:M},Rep w0 m Y a w->∀ {us:List Value},Zi m Y.nv Y.al vs us ->
  (Y.nv<=nn->Zf T m.env nn ds/\(∀a∈as,a.ok (nn+ds.length))) /\
  ∀e',(∀i,i<Y.nv->e' i=m.env i)->Told T e' nn ds->Wv w0.heap.size w os (as.map (·.ev e')) us:=by
 intro os
 induction os with
 |nil =>
  intro vs nn ds as h m hrep us hu;cases vs with
  |cons v vs=>cases h
  |nil =>
   simp[Jt]at h;obtain⟨rfl,rfl⟩:=h;cases us with
   |cons u us=>exact hu.elim
   |nil=>exact⟨fun _=>⟨trivial,by simp⟩,fun _ _ _=>⟨rfl,rfl⟩⟩
 |cons s os ih =>
  intro vs nn ds as h m hrep us hu;cases vs with
  |nil=>cases h
  |cons v vs =>
   cases us with
   |nil=>exact hu.elim
   |cons u us =>
    obtain⟨hu1,hu2⟩:=hu;simp only[Jt]at h;cases hd:Qxl Y nn s v with
    |none=>rw[hd]at h;cases h
    |some d =>
     rw[hd]at h;simp only at h;cases hr:Jt Y (nn+d.1.length) os vs with
     |none=>rw[hr]at h;cases h
     |some r =>
      rw[hr]at h;simp only[Option.some.injEq,Prod.mk.injEq]at h;obtain⟨rfl,rfl⟩:=h;obtain⟨d1,d2⟩:=d;obtain⟨r1,r2⟩:=r;simp only at hr ⊢;obtain⟨i1,i2⟩:=ih vs (nn+d1.length) r1 r2 hr hrep hu2
      have one:(Y.nv<=nn->Zf T m.env nn d1/\(∀a∈d2,a.ok (nn+d1.length)))/\d2.length=Qs s.leaves /\
        ∀e',(∀i,i<Y.nv->e' i=m.env i)->Told T e' nn d1->Xq s.leaves (d2.map (·.ev e'))/\s.rel w0.heap.size w (d2.map (·.ev e')) u:=by
       unfold Qxl at hd;split at hd
       ·rename_i l c;obtain⟨g1,g3,g4⟩:=Xm (T:=T) _ _ _ _ _ hd m Y.nv [u] ⟨hu1,trivial⟩;exact⟨g1,g3,fun e' he ht=>by obtain⟨g5,g6⟩:=g4 e' he ht;exact⟨g6,g5.symm⟩⟩
       ·rename_i ls cs;obtain⟨vs',rfl,hr'⟩:=hu1;obtain⟨g1,g3,g4⟩:=Xm (T:=T) _ _ _ _ _ hd m Y.nv vs' hr';exact⟨g1,g3,fun e' he ht=>by obtain⟨g5,g6⟩:=g4 e' he ht;exact⟨g6,by simp only[Oh.rel];rw[g5]⟩⟩
       ·rename_i e ls id;split at hd
        ·rename_i b hb;split at hd
         ·rename_i hc;simp only[Oo,beq_iff_eq]at hc;have hb':Y.boxes[id]?=some (some b):=by
           rw[St.Xa2]at hb;split at hb
           ·cases hb;assumption
           ·cases hb
          obtain⟨k1,k2,vs',k3,k4⟩:=hrep.own id b hb' hc.1.1;rw[hc.1.2]at k3;obtain⟨g1,g3,g4⟩:=Xm (T:=T) _ _ _ _ _ hd m Y.nv vs' k4;refine⟨g1,g3,fun e' he ht=>?_⟩;obtain⟨g5,g6⟩:=g4 e' he ht;refine⟨g6,(m.rho id).1,k2,?_,?_⟩
          ·rw[hu1.2];simp[M.at,k1]
          ·rw[g5,k3,hc.2]
         ·cases hd
        ·cases hd
       ·rename_i e k;cases hd;have hu1:u=.slice none 0 0:=hu1;refine⟨fun _=>⟨trivial,fun x hx=>by rw[Me.1 hx];trivial⟩,rfl,fun e' _ _=>?_⟩;simp only[Mn,M7,Oh.leaves,Xq,Oh.rel,Lq,A.ev,Qv];exact⟨⟨⟨by simp,by simp⟩,trivial⟩,by rw[hu1];exact World.ownsRow_nil ..⟩
       ·rename_i e k id;split at hd
        ·rename_i r hr0;split at hd
         ·rename_i hc;simp only[Oo,beq_iff_eq]at hc;obtain⟨⟨hc1,hc2⟩,hc3⟩:=hc;cases hd;have hk:=Zx hc3;subst hk;subst hc2;have hu1:Y.al id=true/\u=m.sv id/\u.oneCell'=true:=hu1;obtain⟨q1,q2,_,_,q3⟩:=hrep.Xav hr0;have q4:=q3.2.1;rw[hc1]at q4;simp only[if_true]at q4;refine⟨fun hn=>⟨trivial,fun x hx=>by rw[Me.1 hx];exact A.Xar q2.1 (by simpa using hn)⟩,rfl,fun e' he _=>?_⟩;simp only[Mn,M7,Oh.leaves,Xq,Oh.rel,Lq];rw[A.Xaq q2.1 he,hu1.2.1];exact⟨⟨q3.1,trivial⟩,q4⟩
         ·cases hd
        ·cases hd
       ·rename_i e k id lo' hi' k';split at hd
        ·rename_i r hr0;split at hd
         ·rename_i hc;simp only[Oo,beq_iff_eq]at hc;obtain⟨⟨⟨⟨hc1,hc2⟩,hc3⟩,hc4⟩,hc5⟩:=hc;cases hd;have hk:=Zx hc3;subst hk;have hk2:=Zx hc4;subst hk2;subst hc2;have hz:=Qdd hc5;subst hz;obtain⟨b1,b2,b3,b4,b5,b6⟩:=(show C.rel m Y.nv Y.al (.slv id (.lit 0) hi' r.k) u from hu1)
          obtain⟨q1,q2,_,_,q3⟩:=hrep.Xav hr0;have q4:=q3.2.1;rw[hc1]at q4;simp only[if_true]at q4;rw[q3.Xbh]at b4;have c1:0<=hi'.ev m.env:=b4.2.1;have c2:hi'.ev m.env<=((dec (r.x.ev m.env)).length:Int):=b4.2.2.1;have b5':u=Up r.k.sz (m.sv id) 0 (hi'.ev m.env).toNat:=W9.zero b5;have hown:=Zbe q4 (hi:=(hi'.ev m.env).toNat) (by omega);have hL:=q3.1.sub (hi'.ev m.env).toNat 0;refine⟨fun hn=>⟨⟨⟨A.Xar q2.1 hn,trivial,A.Xar b3.1 hn⟩,by simp only[KK.has,D.ev,Qu];exact hL,trivial⟩,fun x hx=>by rw[Me.1 hx];show nn<nn+1;omega⟩,rfl,fun e' he ht=>?_⟩;have h0:e' (nn+0)=enc (((dec (r.x.ev e')).take (hi'.ev e').toNat).drop 0):=(ht 0 _ _ rfl).1;rw[K3,A.Xaq q2.1 he,A.Xaq b3.1 he]at h0;have hv:dec (A.ev e' (.v nn))=(dec (r.x.ev m.env)).take (hi'.ev m.env).toNat:=by
           show dec (e' (nn+0))=_;rw[h0,Qu]
          rw[K3]at hL;show(r.k.hasL (dec (A.ev e' (.v nn)))/\True)/\w.ownsRow w0.heap.size r.elem r.k.sz u (dec (A.ev e' (.v nn))).length (flat r.k (dec (A.ev e' (.v nn))));rw[hv,b5'];exact⟨⟨hL,trivial⟩,hown⟩
         ·cases hd
        ·cases hd
       ·rename_i e k;cases hd;have hu1:u=.slice none 0 0:=hu1;refine⟨fun _=>⟨trivial,fun x hx=>?_⟩,rfl,fun e' _ _=>?_⟩
        ·simp only[Mh,M6,or_false]at hx;rcases hx with rfl|rfl <;> trivial
        ·simp only[Mn,M7,Oh.leaves,Xq,Oh.rel,Lq,A.ev,Qv];exact⟨⟨⟨by simp,by simp⟩,⟨by simp[has,lo,hi],trivial⟩⟩,.slice none 0 0,World.ownsRow_nil ..,rfl,by simp,by rw[hu1];rfl⟩
       ·rename_i e k id lo' hi' k';split at hd
        ·rename_i r hr0;split at hd
         ·rename_i hc;simp only[Oo,beq_iff_eq]at hc;obtain⟨⟨⟨⟨⟨hc1,hc2⟩,hc3⟩,hc4⟩,hc6⟩,hc5⟩:=hc;cases hd;have hk:=Zx hc3;subst hk;have hk2:=Zx hc4;subst hk2;subst hc2;have hz:=Qdd hc5;subst hz;obtain⟨b1,b2,b3,b4,b5,b6⟩:=(show C.rel m Y.nv Y.al (.slv id (.lit 0) hi' r.k) u from hu1)
          obtain⟨q1,q2,_,_,q3⟩:=hrep.Xav hr0;have q4:=q3.2.1;rw[hc1]at q4;simp only[if_true]at q4;rw[q3.Xbh]at b4;have c1:0<=hi'.ev m.env:=b4.2.1;have c2:hi'.ev m.env<=((dec (r.x.ev m.env)).length:Int):=b4.2.2.1;have c3:=b4.2.2.2;refine⟨fun hn=>⟨trivial,fun x hx=>?_⟩,rfl,fun e' he ht=>?_⟩
          ·simp only[Mh,M6,or_false]at hx;rcases hx with rfl|rfl
           ·exact A.Xar q2.1 (by simpa using hn)
           ·exact A.Xar b3.1 (by simpa using hn)
          ·have hx0:A.ev e' r.x=A.ev m.env r.x:=A.Xaq q2.1 he;have hv0:A.ev e' hi'=A.ev m.env hi':=A.Xaq b3.1 he;show Xq [.lst r.k,.int .i64] [A.ev e' r.x,A.ev e' hi']/\Qc6 r.k (fun v'=>w.ownsRow w0.heap.size r.elem r.k.sz v' (dec (A.ev e' r.x)).length (flat r.k (dec (A.ev e' r.x)))) (dec (A.ev e' r.x)) (A.ev e' hi') u;rw[hx0,hv0];exact⟨⟨q3.1,by simp only[has,lo,hi];omega,trivial⟩,m.sv id,q4,q3.2.2 hc6,⟨c1,c2⟩,W9.zero b5⟩
         ·cases hd
        ·cases hd
       ·rename_i e k id hi' n;split at hd
        ·rename_i b hb;split at hd
         ·rename_i hc;simp only[Oo,beq_iff_eq,decide_eq_true_eq]at hc;obtain⟨⟨⟨⟨⟨hc1,hcf⟩,hc2⟩,hn0⟩,hn1⟩,hlen⟩:=hc;split at hd
          ·rename_i ds' as' htk;cases hd;obtain⟨b1,b2,b3,b4⟩:=(show C.rel m Y.nv Y.al (.slS id 0 hi' n) u from hu1)
           obtain⟨k1,k2,vs',k3,k4⟩:=hrep.own id b (Zu hb) hc1;rw[hcf]at k3;obtain⟨g1,g3,g4⟩:=V8 (T:=T) _ _ _ _ _ htk m Y.nv vs' k4;have hvl:vs'.length=n*k.sz:=by rw[<- k4.length,hlen]
           refine⟨fun hn=>⟨Q5 _ _ _ _ (g1 hn).1 fun e1 he1 ht1=>⟨⟨trivial,(g1 hn).2⟩,?_,trivial⟩,?_⟩,rfl,fun e' he ht=>?_⟩
           ·simp only[KK.has,D.ev,A.ev,Qv,Qu,Ox];exact⟨by rw[O8,g3];omega,(g4 e1 (fun i hi=>he1 i (by omega)) ht1).2⟩
           ·intro x hx;simp only[Mh,M6,or_false]at hx;rcases hx with rfl|rfl
            ·show nn+ds'.length<nn+(ds'++_).length;simp
            ·exact A.Xar b2.1 (by omega)
           ·obtain⟨t1,t2⟩:=Told.append.1 ht;have h0:e' (nn+ds'.length)=enc (as'.map (·.ev e')):=by
             have h1:e' (nn+ds'.length+0)=enc (dec 0++as'.map (·.ev e')):=(t2 0 _ _ rfl).1;rwa[Qv,Ox]at h1
            obtain⟨f1,f2⟩:=g4 e' he t1;have hv0:A.ev e' hi'=A.ev m.env hi':=A.Xaq b2.1 he;have hl:(as'.map (·.ev e')).length=n:=by rw[O8,g3]
            show Xq [.lst k,.int .i64] [e' (nn+ds'.length),A.ev e' hi']/\Qc6 k (fun v'=>w.ownsRow w0.heap.size e k.sz v' (dec (e' (nn+ds'.length))).length (flat k (dec (e' (nn+ds'.length))))) (dec (e' (nn+ds'.length))) (A.ev e' hi') u;rw[h0,Qu,hv0,f1,hl];refine⟨⟨(show k.hasL (dec (enc (as'.map (·.ev e')))) by rw[Qu];exact⟨by rw[hl];omega,f2⟩),by simp only[has,lo,hi];omega,trivial⟩,.slice (some ⟨(m.rho id).1,0,none⟩) n n,⟨hvl,.inr ⟨(m.rho id).1,n,vs'.toArray,rfl,k2,by rw[k3,hc2],Nat.le_refl _,by unfold maxLen;omega,by simpa using hvl,?_⟩⟩,rfl,⟨b3.1,by rw[hl];exact b3.2⟩,?_⟩
            ·rw[Mg (by rw[<- hvl];simp)]
            ·rw[b4,We];simp[M.at,k1]
          ·cases hd
         ·cases hd
        ·cases hd
       ·rename_i e k id n n';split at hd
        ·rename_i b hb;split at hd
         ·rename_i hc;simp only[Oo,beq_iff_eq,decide_eq_true_eq]at hc;obtain⟨⟨⟨⟨⟨⟨hc1,hcf⟩,hc2⟩,hn0⟩,hn1⟩,hnn⟩,hlen⟩:=hc;split at hd
          ·rename_i ds' as' htk;cases hd;subst hnn;have hu1:=(show C.rel m Y.nv Y.al (.slice id 0 n n) u from hu1)
           obtain⟨k1,k2,vs',k3,k4⟩:=hrep.own id b (Zu hb) hc1;rw[hcf]at k3;obtain⟨g1,g3,g4⟩:=V8 (T:=T) _ _ _ _ _ htk m Y.nv vs' k4;have hvl:vs'.length=n*k.sz:=by rw[<- k4.length,hlen]
           refine⟨fun hn=>⟨Q5 _ _ _ _ (g1 hn).1 fun e1 he1 ht1=>⟨⟨trivial,(g1 hn).2⟩,?_,trivial⟩,?_⟩,rfl,fun e' he ht=>?_⟩
           ·simp only[KK.has,D.ev,A.ev,Qv,Qu,Ox];exact⟨by rw[O8,g3];omega,(g4 e1 (fun i hi=>he1 i (by omega)) ht1).2⟩
           ·intro x hx;rw[Me.1 hx];show nn+ds'.length<nn+(ds'++_).length;simp
           ·obtain⟨t1,t2⟩:=Told.append.1 ht;have h0:e' (nn+ds'.length)=enc (as'.map (·.ev e')):=by
             have h1:e' (nn+ds'.length+0)=enc (dec 0++as'.map (·.ev e')):=(t2 0 _ _ rfl).1;rwa[Qv,Ox]at h1
            obtain⟨f1,f2⟩:=g4 e' he t1;have hl:(as'.map (·.ev e')).length=n:=by rw[O8,g3]
            show Xq [.lst k] [e' (nn+ds'.length)]/\w.ownsRow w0.heap.size e k.sz u (dec (e' (nn+ds'.length))).length (flat k (dec (e' (nn+ds'.length))));rw[h0,Qu,f1,hl];refine⟨⟨(show k.hasL (dec (enc (as'.map (·.ev e')))) by rw[Qu];exact⟨by rw[hl];omega,f2⟩),trivial⟩,hvl,.inr ⟨(m.rho id).1,n,vs'.toArray,?_,k2,by rw[k3,hc2],Nat.le_refl _,by unfold maxLen;omega,by simpa using hvl,?_⟩⟩
            ·rw[hu1.2];simp[M.at,k1]
            ·rw[Mg (by rw[<- hvl];simp)]
          ·cases hd
         ·cases hd
        ·cases hd
       ·cases hd
      obtain⟨o1,o2,o3⟩:=one;refine⟨fun hn=>⟨Q5 _ _ _ _ (o1 hn).1 fun e1 he1 _=>?_,?_⟩,fun e2 he2 ht2=>?_⟩
      ·have hx:MExt m Y.nv Y.al {m with env:=e1 } Y.nv Y.al:=⟨fun i hi=>he1 i (by omega),fun _ _=>rfl,rfl,fun _ _=>rfl,Nat.le_refl _,fun _ h=>h⟩
       exact((ih _ _ _ _ hr (hrep.names e1 (fun i hi=>he1 i (by omega)) Y.nv (Nat.le_refl _)) (hu2.mono hx)).1 (by show Y.nv<=_;omega)).1
      ·intro x hx;rcases L5.1 hx with hx|hx
       ·exact A.Xar ((o1 hn).2 x hx) (by simp)
       ·exact A.Xar ((i1 (by omega)).2 x hx) (by simp;omega)
      ·rw[Told.append]at ht2;obtain⟨h1,h2⟩:=o3 e2 he2 ht2.1;have h3:=i2 e2 he2 ht2.2;have e1:(List.map (fun x=>A.ev e2 x) d2++List.map (fun x=>A.ev e2 x) r2).take (Qs s.leaves)=List.map (fun x=>A.ev e2 x) d2:=by
        rw[List.take_append_of_le_length (by simp[o2]),Mg (by simp[o2])]
       have e2':(List.map (fun x=>A.ev e2 x) d2++List.map (fun x=>A.ev e2 x) r2).drop (Qs s.leaves)=List.map (fun x=>A.ev e2 x) r2:=by
        rw[List.drop_append_of_le_length (by simp[o2]),Kp (by simp[o2])];rfl
       simp only[Kq,Wv,e1,e2'];exact⟨h1,h2,h3⟩
theorem Y9(w:World):∀(ins:List Sh) (xs:List Int) (args:List Value) (nn id:Nat),J4 w ins xs args->(Yc nn id ins).2.length=(Qcl ins args).length
 |[],_,args,nn,id,h=>by cases args <;> rfl
 |s::ss,xs,[],nn,id,h=>h.elim
 |s::ss,xs,u::args,nn,id,h=>by
  cases s with
  |one l=>exact Y9 w ss _ args _ _ h.2.2
  |agg l=>exact Y9 w ss _ args _ _ h.2.2
  |ll=>exact Y9 w ss _ args _ _ h.2.2
  |ptr l=>simp only[Yc,Qcl,Ov];rw[Y9 w ss _ args _ _ h.2.2]
  |lst k=>simp only[Yc,Qcl,Ov];rw[Y9 w ss _ args _ _ h.2.2]
  |lent k=>simp only[Yc,Qcl,Ov];rw[Y9 w ss _ args _ _ h.2.2]
theorem Vx:∀(ins:List Sh) (nn id:Nat) (j:Nat),j<(Yc nn id ins).2.length->∃b,(Yc nn id ins).2[j]?=some (some b)
 |[],_,_,_,h=>by simp[Yc]at h
 |s::ss,nn,id,j,h=>by
  cases s with
  |one l=>exact Vx ss _ _ j h
  |agg l=>exact Vx ss _ _ j h
  |ll=>exact Vx ss _ _ j h
  |ptr l =>
   cases j with
   |zero=>exact⟨_,rfl⟩
   |succ j=>simpa[Yc]using Vx ss (nn+Qs l) (id+1) j (by simpa[Yc]using h)
  |lst k =>
   cases j with
   |zero=>exact⟨_,rfl⟩
   |succ j=>simpa[Yc]using Vx ss (nn+1) (id+1) j (by simpa[Yc]using h)
  |lent k =>
   cases j with
   |zero=>exact⟨_,rfl⟩
   |succ j=>simpa[Yc]using Vx ss (nn+2) (id+1) j (by simpa[Yc]using h)
def Zk6(xs:List Int):Nat->Int:=fun i=>xs.getD i 0
theorem Qf7.below{gls:Gls}{w0 w:World}(h:Qf7 gls w0)(hb:Below w0.heap.size w0 w):Qf7 gls w:=fun p hp=>by
 obtain⟨h1,h2,h3⟩:=h p hp;exact⟨Kf h1 hb.size,h2,fun j c hc=>by rw[hb.cell (p:=⟨p.1,j,none⟩) h1];exact h3 j c hc⟩
theorem K.ok.up{X:K}{gls:Gls}(h:X.ok P):X.ok P gls:=fun w _=>h w fun _ hp=>absurd hp (M6)
theorem Qxr:∀(gls:Gls) (id:Nat) (p:Nat×Nat),p∈glB id gls->∃j q,gls[j]?=some q/\p=(q.1,id+j)
 |[],_,p,h=>absurd h (M6)
 |q::r,id,p,h=>by
  rcases Mh.1 h with rfl|h
  ·exact⟨0,q,rfl,rfl⟩
  ·obtain⟨j,q',h1,h2⟩:=Qxr r (id+1) p h;exact⟨j+1,q',by simpa using h1,by rw[h2];congr 1;omega⟩
theorem Qff{l:List (Option Box)}{gls:Gls}{id:Nat}{b:Box}(h:(l++gls.map (fun p=>some ({cells:=p.2,elem:=0,own:=false }:Box)))[id]?=some (some b)) :
  l[id]?=some (some b)∨∃j p,id=l.length+j/\gls[j]?=some p/\b={cells:=p.2,elem:=0,own:=false }:=by
 rcases Ha id l.length with hl|hl
 ·rw[Mm hl]at h;exact .inl h
 ·rw[Mf hl,M2]at h;cases hg:gls[id-l.length]? with
  |none=>rw[hg]at h;cases h
  |some p =>
   rw[hg]at h;simp only[L4,Option.some.injEq]at h;exact .inr ⟨id-l.length,p,by omega,hg,h.symm⟩
theorem Quv{gls:Gls}(hm:P.follows .mixedOrders=true)(hT:∀(g:Nat) X,T[g]?=some X->X.ok P gls){X:K}{fn:Func}(fuel:Nat)(hf:P.funcs[X.fn]?=some fn)(hn:(fn.name == "runtime.NumGoroutine")=false)(hext:X.ext=false)(hok:X.ins.all Qhn=true)
  (hh:∀(w:World) (xs:List Int) (args:List Value),J4 w X.ins xs args->X.pre xs->(Qv3 P T LA fuel fn X.ins X.outs gls).holds T ⟨fun ys=>ys=X.sem xs,[]⟩ (Zk6 xs)):X.ok P gls:=by
 intro w hG args xs hin hpre;rw[hext];simp only[K5,if_false];have h1:=hh w xs args hin hpre;unfold Qv3 at h1;cases hb:fn.body with
 |none=>rw[hb]at h1;exact h1.elim
 |some c =>
  rw[hb]at h1;simp only at h1;refine⟨Qej hf hn hb,calls_of_wp hf hb ?_⟩
  let m:M:={env:=Zk6 xs,rho:=fun id=>(Qcl X.ins args++gls.map fun(p:Nat×List C)=>(p.1,0)).getD id (0,0),ext:={base:=w },sv:=fun id=>(Qhv X.ins args).getD id .nilFunc }
  let Y:=Zpo fn X.ins gls
  have hlen:=Y9 w X.ins xs args 0 0 hin;have hal:∀j,j<(Yc 0 0 X.ins).2.length->Y.al (0+j)=true:=fun j hj=>by
   obtain⟨b,hb⟩:=Vx X.ins 0 0 j hj;exact Vp.2 ⟨b,by rw[M5];show((Yc 0 0 X.ins).2++_)[j]?=_;rw[Mm hj];exact hb⟩
  obtain⟨v1,v2⟩:=Zwr X.ins xs args 0 0 hok hin m Y.nv Y.al rfl (fun i x hx=>by show xs.getD (0+i) 0=x;rw[M5,Ou,hx];rfl) (by show 0+Xk X.ins<=Xk X.ins;omega)
   (fun j p hp=>by show(Qcl X.ins args++_).getD (0+j) (0,0)=p;rw[M5,Ou,Mm (Ow.1 hp).1,hp];rfl) hal (fun j v hv=>by show(Qhv X.ins args).getD (0+j) .nilFunc=v;rw[M5,Ou,hv];rfl)
  have hrho:∀(j:Nat) p,gls[j]?=some p->m.rho ((Yc 0 0 X.ins).2.length+j)=(p.1,0):=fun j p hp=>by
   show(Qcl X.ins args++gls.map fun(p:Nat×List C)=>(p.1,0)).getD _ (0,0)=_;rw[hlen,Ou,Mf (by omega),M2,Nat.add_sub_cancel_left,hp];rfl
  have hbase:Rep w m {Y with tmps:=[] } {tmps:=#[],defers:=[] } w:=by
   refine⟨rfl,rfl,fun i s hi=>by simp at hi,Below.refl _ _,fun id b hb ho=>?_,fun id b hb ho=>?_,fun id id' b b' hb hb' ho _ _=>?_,fun p hp=>absurd hp (M6),fun p hp=>?_,fun id b r hb hr=>?_,fun id b r hb hr ho=>?_,fun id b r id' b' r' hb hr hb' hr' ho=>?_,rfl⟩
   ·rcases Qff hb with hb|⟨j,p,_,_,rfl⟩
    ·rw[(v2 id b hb).1]at ho;cases ho
    ·cases ho
   ·rcases Qff hb with hb|⟨j,p,rfl,hp,rfl⟩
    ·have:=v2 id b hb;rw[M5]at this;exact this.2.1
    ·obtain⟨g1,g2,g3⟩:=hG p (Mu hp);refine .inr ⟨by rw[hrho j p hp];exact g1,fun i c hc=>⟨Zf5 c,?_,?_⟩⟩
     ·have:=g3 i c hc;simp only[M.at,hrho j p hp,M5];exact this
     ·have hcb:Qwt c=true:=Ms.1 g2 c (Mu hc);have:=Qoq (m:=m) (nv:=Y.nv) (al:=Y.al) c;rw[if_pos hcb]at this;exact this
   ·rcases Qff hb with hb|⟨j,p,_,_,rfl⟩
    ·rw[(v2 id b hb).1]at ho;cases ho
    ·cases ho
   ·obtain⟨j,q,h1,rfl⟩:=Qxr _ _ _ hp;refine⟨Vp.2 ⟨{cells:=q.2,elem:=0,own:=false },?_⟩,hrho j q h1⟩;show((Yc 0 0 X.ins).2++gls.map _)[(Yc 0 0 X.ins).2.length+j]?=_;rw[Mf (by omega),M2,Nat.add_sub_cancel_left,h1];rfl
   ·rcases Qff hb with hb|⟨j,p,_,_,rfl⟩
    ·have:=v2 id b hb;rw[M5]at this;obtain⟨r1,r2,r3,r4⟩:=this.2.2 r hr;exact⟨r1,by rw[r2];exact r1,by rw[r2],r3⟩
    ·cases hr
   ·rcases Qff hb with hb|⟨j,p,_,_,rfl⟩
    ·rw[((v2 id b hb).2.2 r hr).2.2.2]at ho;cases ho
    ·cases hr
   ·rcases Qff hb with hb|⟨j,p,_,_,rfl⟩
    ·rw[((v2 id b hb).2.2 r hr).2.2.2]at ho;cases ho
    ·cases hr
  have hR:Rep w m Y {tmps:=args.toArray++Array.replicate (fn.ntmps-args.toArray.size) undef,defers:=[] } w:=Qn0 hbase v1 fn.ntmps;refine Zbw hm (fun g X hg w' hb=>hT g X hg w' (hG.below hb)) fuel (.code c) Y (Jd P fn X.outs) m _ w _ _ hR rfl h1 fun e Y' m' a' w' goal' x1 x2 x3 x4 x5=>?_
  have key:e=.normal∨e=.ret->bodyPost P fn (fun e w'=>∃vs,e=.returned (Qho vs)/\Wv w.heap.size w' X.outs (X.sem xs) vs/\Below w.heap.size w w') (Qf4 e) a' w':=by
   intro he;have x6:(match Qud P Y' fn with|none=>.bad 401 "" |some vs=>match Jt Y' Y'.nv X.outs vs with|none=>.bad 402 "" |some r=>Vw Y'.nv r.1 (.ret r.2):Qq).holds T goal' m'.env:=by
    rcases he with rfl|rfl <;> exact x5
   cases hrs:Qud P Y' fn with
   |none=>rw[hrs]at x6;exact x6.elim
   |some vs =>
    rw[hrs]at x6;simp only at x6;cases hto:Jt Y' Y'.nv X.outs vs with
    |none=>rw[hto]at x6;exact x6.elim
    |some r =>
     rw[hto]at x6;simp only at x6;obtain⟨r1,r2⟩:=r;obtain⟨us,u1,u2⟩:=Zj0 x4 hrs;obtain⟨o1,o2⟩:=Qs8 (T:=T) _ _ _ _ _ hto x4 u2;obtain⟨e1,k1,k2,k3,k4⟩:=Xe _ _ _ x6 (o1 (Nat.le_refl _)).1;have hout:=o2 e1 (fun i hi=>k1 i hi) k3;have hg:r2.map (·.ev e1)=X.sem xs:=by
      have:goal'.goal (r2.map (·.ev e1)):=k4;rw[x1.1]at this;exact this
     rw[hg]at hout;have hd:=x4.defers;have:=x4.below;rcases he with rfl|rfl <;> exact⟨hd,Qho us,u1,us,rfl,hout,this⟩
  cases e with
  |normal=>exact key (.inl rfl)
  |ret=>exact key (.inr rfl)
  |exit id=>exact x5.elim
end
def Qa9(e:Nat->Int)(n:Nat):Nat->List Int
 |0=>[]
 |k+1=>e n::Qa9 e (n+1) k
def Qq.Xat(T:List K):Qq->Gl->(Nat->Int)->Prop
 |.ret as,g,e=>g.goal (as.map (·.ev e))
 |.split n t f,g,e=>(e n≠0->t.Xat T g e)/\(e n=0->f.Xat T g e)
 |.l n kk d t,g,e=>e n=d.ev T e->kk.has (e n)->t.Xat T g e
 |.req q as t,g,e=>(match T[q]? with|some X=>X.pre (as.map (·.ev e))|none=>False)/\t.Xat T g e
 |.nz a t,g,e=>a.ev e≠0/\t.Xat T g e
 | .loop inits kks n0 t,g,e=>∃ (I:List Int->Prop) (μ:List Int->Nat),I (inits.map (·.ev e)) /\
   ∀e',(∀i,i<n0->e' i=e i)->Q0 kks (Qa9 e' n0 kks.length)->I (Qa9 e' n0 kks.length)->t.Xat T {g with stk:=g.stk++[fun us=>I us/\μ us<μ (Qa9 e' n0 kks.length)] } e'
 |.back lvl as,g,e=>match g.stk[lvl]? with|some R=>R (as.map (·.ev e))|none=>False
 |.bad _ _,_,_=>False
def A.okB(n:Nat):A->Bool
 |.lit _=>true
 |.v k=>decide (k<n)
 |.m k _=>decide (k<n)
 |.elt _ k _=>decide (k<n)
def D.okB(n:Nat):D->Bool
 |.bin _ _ a b=>a.okB n&&b.okB n
 |.cmp _ a b=>a.okB n&&b.okB n
 |.conv _ a=>a.okB n
 |.not a=>a.okB n
 |.app _ _ as=>as.all (A.okB n)
 |.join as=>as.all (A.okB n)
 |.eqs l=>l.all fun p=>p.1.okB n&&p.2.okB n
 |.sel i as=>i.okB n&&as.all (A.okB n)
 |.put i _ x y=>i.okB n&&x.okB n&&y.okB n
 |.llen x=>x.okB n
 |.lget x i=>x.okB n&&i.okB n
 |.lapp x as=>x.okB n&&as.all (A.okB n)
 |.lsub x lo hi=>x.okB n&&lo.okB n&&hi.okB n
 |.lput x i y=>x.okB n&&i.okB n&&y.okB n
 |.lrep c y=>c.okB n&&y.okB n
 |.lcpy x y=>x.okB n&&y.okB n
 |.lcat x y=>x.okB n&&y.okB n
 |.lsame x y=>x.okB n&&y.okB n
def wfT:Nat->Qq->Bool
 |nn,.ret as=>as.all (A.okB nn)
 |nn,.split n t f=>decide (n<nn)&&wfT nn t&&wfT nn f
 |nn,.l n _ d t=>decide (nn<=n)&&d.okB nn&&wfT (n+1) t
 |nn,.req _ as t=>as.all (A.okB nn)&&wfT nn t
 |nn,.nz a t=>a.okB nn&&wfT nn t
 |nn,.loop inits kks n0 t=>inits.all (A.okB nn)&&decide (nn<=n0)&&wfT (n0+kks.length) t
 |nn,.back _ as=>as.all (A.okB nn)
 |_,.bad _ _=>true
theorem A.Xaw{n:Nat}{a:A}(h:a.okB n=true):a.ok n:=by
 cases a <;> simp[A.okB]at h <;> first|trivial|exact h
theorem A.Xbj{n:Nat}{as:List A}(h:as.all (A.okB n)=true):∀a∈as,a.ok n:=fun a ha=>A.Xaw (Ms.1 h a ha)
theorem D.Xaw{n:Nat}{d:D}(h:d.okB n=true):d.ok n:=by
 cases d <;> simp only[D.okB,Oo]at h
 case bin=>exact⟨A.Xaw h.1,A.Xaw h.2⟩
 case cmp=>exact⟨A.Xaw h.1,A.Xaw h.2⟩
 case conv=>exact A.Xaw h
 case not=>exact A.Xaw h
 case app=>exact A.Xbj h
 case join=>exact A.Xbj h
 case sel=>exact⟨A.Xaw h.1,A.Xbj h.2⟩
 case put=>exact⟨A.Xaw h.1.1,A.Xaw h.1.2,A.Xaw h.2⟩
 case llen=>exact A.Xaw h
 case lget=>exact⟨A.Xaw h.1,A.Xaw h.2⟩
 case lapp=>exact⟨A.Xaw h.1,A.Xbj h.2⟩
 case lsub=>exact⟨A.Xaw h.1.1,A.Xaw h.1.2,A.Xaw h.2⟩
 case lput=>exact⟨A.Xaw h.1.1,A.Xaw h.1.2,A.Xaw h.2⟩
 case lrep=>exact⟨A.Xaw h.1,A.Xaw h.2⟩
 case lcpy=>exact⟨A.Xaw h.1,A.Xaw h.2⟩
 case lcat=>exact⟨A.Xaw h.1,A.Xaw h.2⟩
 case lsame=>exact⟨A.Xaw h.1,A.Xaw h.2⟩
 case eqs=>exact fun p hp=>by have:=Ms.1 h p hp;rw[Oo]at this;exact⟨A.Xaw this.1,A.Xaw this.2⟩
theorem Qfk:∀ {ks:List KK} {vs:List Int},Q0 ks vs->vs.length=ks.length
 |[],[],_=>rfl
 |_::_,_::_,h=>by simp[Qfk h.2]
 |[],_::_,h=>h.elim
 |_::_,[],h=>h.elim
theorem Qpk:∀(vs:List Int) (e:Nat->Int) (n:Nat),(∀(i:Nat) x,vs[i]?=some x->e (n+i)=x)->Qa9 e n vs.length=vs
 |[],_,_,_=>rfl
 |v::vs,e,n,h=>by
  simp only[Ov,Qa9];rw[Qpk vs e (n+1) fun i x hx=>by have:=h (i+1) x (by simpa using hx);rwa[show n+1+i=n+(i+1) by omega]];rw[show e n=v by simpa using h 0 v rfl]
theorem W2{T:List K}:∀(t:Qq) (nn:Nat) (g:Gl) (e:Nat->Int),wfT nn t=true->(∀e',(∀i,i<nn->e' i=e i)->t.Xat T g e')->t.holds T g e
 |.ret as,nn,g,e,_,h=>h e fun _ _=>rfl
 |.bad _ _,nn,g,e,_,h=>h e fun _ _=>rfl
 |.back _ _,nn,g,e,_,h=>h e fun _ _=>rfl
 |.split n t f,nn,g,e,hw,h=>by
  simp only[wfT,Oo,decide_eq_true_eq]at hw;obtain⟨⟨h1,h2⟩,h3⟩:=hw;exact⟨fun hn=>W2 t nn g e h2 fun e' he'=>(h e' he').1 (by rw[he' n h1];exact hn),fun hn=>W2 f nn g e h3 fun e' he'=>(h e' he').2 (by rw[he' n h1];exact hn)⟩
 |.l n kk d t,nn,g,e,hw,h=>by
  simp only[wfT,Oo,decide_eq_true_eq]at hw;obtain⟨⟨h1,h2⟩,h3⟩:=hw;intro v hv hk;refine W2 t (n+1) g _ h3 fun e' he'=>?_
  have low:∀i,i<nn->e' i=e i:=fun i hi=>by rw[he' i (by omega)];simp[upd];omega
  have hn:e' n=v:=by rw[he' n (by omega)];simp[upd]
  refine h e' low ?_ (by rw[hn];exact hk);rw[hn,hv,D.Xaq (D.Xaw h2) low]
 |.req q as t,nn,g,e,hw,h=>by
  simp only[wfT,Oo]at hw;exact⟨(h e fun _ _=>rfl).1,W2 t nn g e hw.2 fun e' he'=>(h e' he').2⟩
 |.nz a t,nn,g,e,hw,h=>by
  simp only[wfT,Oo]at hw;exact⟨(h e fun _ _=>rfl).1,W2 t nn g e hw.2 fun e' he'=>(h e' he').2⟩
 |.loop inits kks n0 t,nn,g,e,hw,h=>by
  simp only[wfT,Oo,decide_eq_true_eq]at hw;obtain⟨⟨h1,h2⟩,h3⟩:=hw;obtain⟨I,μ,h4,h5⟩:=h e fun _ _=>rfl
  refine⟨I,μ,h4,fun vs hk hI=>?_⟩;have hl:=Qfk hk;refine W2 t (n0+kks.length) _ _ h3 fun e' he'=>?_
  have hs:Qa9 e' n0 kks.length=vs:=by
   rw[<- hl];refine Qpk vs e' n0 fun i x hx=>?_
   have hi:=(Ow.1 hx).1;rw[he' _ (by omega)];exact Qbn _ _ _ _ _ hx
  have:=h5 e' (fun i hi=>by rw[he' i (by omega)];exact Vo _ _ _ _ hi) (by rw[hs];exact hk) (by rw[hs];exact hI);rw[hs]at this;exact this
def Quc:List Sh->List KK
 |[]=>[]
 |s::ss=>Qlo s.leaves++Quc ss
theorem Qqq{s:Sh}(h:Qhn s=true):s.leaves.all okL=true:=by
 cases s with
 |one l=>simpa[Qhn,Sh.leaves]using h
 |agg ls=>exact h
 |ptr ls=>simp only[Qhn,Oo]at h;exact h.1.1
 |lst k=>rfl
 |lent k=>rfl
 |ll=>rfl
theorem Qgf{w:World}:∀(ins:List Sh) (xs:List Int) (args:List Value),J4 w ins xs args->Q0 (Quc ins) xs
 |[],xs,args,h=>by rw[h.1];trivial
 |s::ss,xs,[],h=>h.elim
 |s::ss,xs,u::args,h=>by
  have:=Qch (Qi8 _ _ h.1) (Qgf ss _ _ h.2.2);rwa[Hs]at this
theorem Qqp:∀(ins:List Sh),ins.all Qhn=true->(Quc ins).length=Xk ins
 |[],_=>rfl
 |s::ss,h=>by
  simp only[L1,Oo]at h;simp only[Quc,Xk,O2,Qqp ss h.2];congr 1;have:=Qqq h.1;generalize s.leaves=ls at this
  induction ls with
  |nil=>rfl
  |cons l ls ih =>
   simp only[L1,Oo]at this;cases l with
   |cst c=>simp only[Qlo,ih this.2,Qs,L.n];omega
   |_=>simp only[Qlo,Ov,ih this.2,Qs,L.n];omega
def Qlq(P:Program)(T:List K)(gls:Gls:=[]):Prop :=
 match T with
 |[]=>True
 |X::T=>X.ok P gls/\Qlq P T gls
theorem Qlq.get{P:Program}{gls:Gls}:∀ {T:List K},Qlq P T gls->∀(g:Nat) X,T[g]?=some X->X.ok P gls
 |[],_,g,X,h=>by simp at h
 |X'::T,hT,g,X,h=>by
  cases g with
  |zero=>simp at h;subst h;exact hT.1
  |succ g=>exact Qlq.get hT.2 g X (by simpa using h)
theorem Vu{P:Program}{T:List K}{LA:List Ann}{gls:Gls}(hm:P.follows .mixedOrders=true)(hT:Qlq P T gls){X:K}{fn:Func}(fuel:Nat)(hf:P.funcs[X.fn]?=some fn)(hn:(fn.name == "runtime.NumGoroutine")=false)(hext:X.ext=false)(hok:X.ins.all Qhn=true)
  {t:Qq} (ht:Qv3 P T LA fuel fn X.ins X.outs gls=t) (hw:wfT (Xk X.ins) t=true)
  (hh:∀e:Nat->Int,Q0 (Quc X.ins) (Qa9 e 0 (Xk X.ins))->X.pre (Qa9 e 0 (Xk X.ins))->t.Xat T ⟨fun ys=>ys=X.sem (Qa9 e 0 (Xk X.ins)),[]⟩ e):X.ok P gls:=by
 refine Quv (LA:=LA) hm hT.get fuel hf hn hext hok fun w xs args hin hpre=>?_
 rw[ht];refine W2 t _ _ _ hw fun e he=>?_
 have hkk:=Qgf _ _ _ hin;have hl:xs.length=Xk X.ins:=by rw[Qfk hkk,Qqp _ hok]
 have hs:Qa9 e 0 (Xk X.ins)=xs:=by
  rw[<- hl];refine Qpk xs e 0 fun i x hx=>?_
  have hi:=(Ow.1 hx).1;rw[M5,he i (by omega)];simp[Zk6,hx]
 have:=hh e (by rw[hs];exact hkk) (by rw[hs];exact hpre);rw[hs]at this;exact this
end Go.Sx

namespace Go.Sx
open Go Go.RowKit
inductive W where|wi (n:Int)|wl (l:List Int)
def W.toI:W->Int|.wi n=>n|.wl l=>enc l
def W.list?:W->Option (List Int)|.wl l=>some l|.wi n=>if n=0 then some []else none
def W.int?:W->Option Int|.wi n=>some n|.wl _=>none
def Qi7:List Int->List Int->Bool
 |[],[]=>true
 |a::as,b::bs=>a==b&&Qi7 as bs
 |_,_=>false
def W.eq:W->W->Bool
 |.wi a,.wi b=>a==b
 |.wl a,.wl b=>Qi7 a b
 |_,_=>false
theorem W.Xbu{w:W}{l:List Int}(h:w.list?=some l):dec w.toI=l:=by
 cases w with
 |wl k=>simp only[W.list?,Option.some.injEq]at h;subst h;exact Qu _
 |wi n =>
  simp only[W.list?]at h;split at h
  ·rename_i hn;cases h;subst hn;exact Qv
  ·cases h
theorem W.Xbw{w:W}{n:Int}(h:w.int?=some n):w.toI=n:=by
 cases w with
 |wi k=>simp only[W.int?,Option.some.injEq]at h;exact h
 |wl k=>cases h
structure Sem1 where
 g:Nat
 args:List W
 outs:List W
def lookW(env:List (Nat×W))(n:Nat):Option W :=
 match env with
 |[]=>none
 |p::r=>if p.1==n then some p.2 else lookW r n
def A.cv(env:List (Nat×W)):A->Option W
 |.lit n=>some (.wi n)
 |.v n=>lookW env n
 |.m n j=>match lookW env n with|some (.wi x)=>some (.wi (x/p64 j%18446744073709551616))|_=>none
 |.elt _ n j=>match lookW env n with|some (.wl l)=>some (.wi (l.getD j 0))|_=>none
def A.ci(env:List (Nat×W))(a:A):Option Int:=match a.cv env with|some w=>w.int?|none=>none
def A.cl(env:List (Nat×W))(a:A):Option (List Int):=match a.cv env with|some w=>w.list?|none=>none
def Ag(env:List (Nat×W))(e:Nat->Int):Prop:=∀p∈env,e p.1=p.2.toI
theorem Qbx{e:Nat->Int}:∀ {env:List (Nat×W)} {n:Nat} {w:W},lookW env n=some w->Ag env e->e n=w.toI
 |[],_,_,h,_=>by cases h
 |p::r,n,w,h,ha=>by
  simp only[lookW]at h;split at h
  ·rename_i hp;cases h;rw[beq_iff_eq]at hp;rw[<- hp];exact ha p (Mr ..)
  ·exact Qbx h fun q hq=>ha q (Mq _ hq)
theorem A.Xbn{env:List (Nat×W)}{e:Nat->Int}(ha:Ag env e){a:A}{w:W}(h:a.cv env=some w):a.ev e=w.toI:=by
 cases a with
 |lit n=>simp only[A.cv,Option.some.injEq]at h;subst h;rfl
 |v n=>exact Qbx h ha
 |m n j =>
  simp only[A.cv]at h;split at h
  ·rename_i x hx;cases h;show e n/p64 j%18446744073709551616=_;rw[Qbx hx ha];rfl
  ·cases h
 |elt k n j =>
  simp only[A.cv]at h;split at h
  ·rename_i l hx;cases h;show(dec (e n)).getD j 0=_;rw[Qbx hx ha];show(dec (enc l)).getD j 0=l.getD j 0;rw[Qu]
  ·cases h
theorem A.Xa5{env:List (Nat×W)}{e:Nat->Int}(ha:Ag env e){a:A}{n:Int}(h:a.ci env=some n):a.ev e=n:=by
 unfold A.ci at h;split at h
 ·rename_i w hw;rw[A.Xbn ha hw];exact W.Xbw h
 ·cases h
theorem A.Xbg{env:List (Nat×W)}{e:Nat->Int}(ha:Ag env e){a:A}{l:List Int}(h:a.cl env=some l):dec (a.ev e)=l:=by
 unfold A.cl at h;split at h
 ·rename_i w hw;rw[A.Xbn ha hw];exact W.Xbu h
 ·cases h
theorem Qp9{env:List (Nat×W)}{e:Nat->Int}(ha:Ag env e):∀ {as:List A} {ws:List W},Zh (A.cv env) as=some ws->as.map (·.ev e)=ws.map W.toI
 |[],ws,h=>by simp only[Zh,Option.some.injEq]at h;subst h;rfl
 |a::as,ws,h=>by
  simp only[Zh]at h;split at h
  ·cases h
  ·rename_i y hy;split at h
   ·cases h
   ·rename_i ys hys;cases h;simp only[Mn,A.Xbn ha hy,Qp9 ha hys]
theorem Qoa{env:List (Nat×W)}{e:Nat->Int}(ha:Ag env e):∀ {as:List A} {ws:List Int},Zh (A.ci env) as=some ws->as.map (·.ev e)=ws
 |[],ws,h=>by simp only[Zh,Option.some.injEq]at h;subst h;rfl
 |a::as,ws,h=>by
  simp only[Zh]at h;split at h
  ·cases h
  ·rename_i y hy;split at h
   ·cases h
   ·rename_i ys hys;cases h;simp only[Mn,A.Xa5 ha hy,Qoa ha hys]
def Zig(env:List (Nat×W)):List (A×A)->Option Bool
 |[]=>some true
 |p::r=>match p.1.ci env,p.2.ci env,Zig env r with
  |some a,some b,some c=>some (a==b&&c)
  |_,_,_=>none
theorem Qxq{env:List (Nat×W)}{e:Nat->Int}(ha:Ag env e):∀ {l:List (A×A)} {b:Bool},Zig env l=some b->(l.all fun p=>p.1.ev e==p.2.ev e)=b
 |[],b,h=>by simp only[Zig,Option.some.injEq]at h;subst h;rfl
 |p::r,b,h=>by
  simp only[Zig]at h;split at h
  ·rename_i x y c hx hy hc;cases h;rw[L1,A.Xa5 ha hx,A.Xa5 ha hy,Qxq ha hc]
  ·cases h
def Qfz:Type:=Nat->List W->Option (List W)
def Zw7(T:List K)(fd:Qfz):Prop:=∀g as os,fd g as=some os->∃X,T[g]?=some X/\X.pre (as.map W.toI)/\X.sem (as.map W.toI)=os.map W.toI
def D.cv(fd:Qfz)(env:List (Nat×W)):D->Option W
 |.bin op k a b=>match a.ci env,b.ci env with|some x,some y=>some (.wi (Qm op k x y))|_,_=>none
 |.cmp op a b=>match a.ci env,b.ci env with|some x,some y=>some (.wi (Xo (Js op x y)))|_,_=>none
 |.conv k a=>match a.ci env with|some x=>some (.wi (wr k x))|_=>none
 |.not a=>match a.ci env with|some x=>some (.wi (if x=0 then 1 else 0))|_=>none
 |.app g j as=>match Zh (A.cv env) as with
  |some ws=>match fd g ws with
   |some os=>os[j]?
   |none=>none
  |none=>none
 |.join as=>match Zh (A.ci env) as with|some l=>some (.wi (Y6 l))|none=>none
 |.eqs l=>match Zig env l with|some b=>some (.wi (Xo b))|none=>none
 |.sel i as=>match i.ci env,Zh (A.ci env) as with|some k,some l=>some (.wi (l.getD k.toNat 0))|_,_=>none
 |.put i j x y=>match i.ci env with|some k=>if k=(j:Int)then x.cv env else y.cv env|none=>none
 |.llen x=>match x.cl env with|some l=>some (.wi (l.length:Int))|none=>none
 |.lget x i=>match x.cl env,i.ci env with|some l,some k=>some (.wi (l.getD k.toNat 0))|_,_=>none
 |.lapp x ys=>match x.cl env,Zh (A.ci env) ys with|some l,some k=>some (.wl (l++k))|_,_=>none
 |.lsub x lo hi=>match x.cl env,lo.ci env,hi.ci env with|some l,some a,some b=>some (.wl ((l.take b.toNat).drop a.toNat))|_,_,_=>none
 |.lput x i y=>match x.cl env,i.ci env,y.ci env with|some l,some a,some b=>some (.wl (l.set a.toNat b))|_,_,_=>none
 |.lrep n y=>match n.ci env,y.ci env with|some a,some b=>some (.wl (List.replicate a.toNat b))|_,_=>none
 |.lcpy x y=>match x.cl env,y.cl env with|some a,some b=>some (.wl (b.take a.length++a.drop b.length))|_,_=>none
 |.lcat x y=>match x.cl env,y.cl env with|some a,some b=>some (.wl (a++b))|_,_=>none
 |.lsame x y=>match x.cl env,y.cl env with|some a,some b=>some (.wi (Xo (Qi7 a b)))|_,_=>none
theorem Qjb:∀(a b:List Int),Qi7 a b=(a==b)
 |[],[]=>rfl
 |x::a,y::b=>by rw[Qi7,Qjb a b];rfl
 |[],_::_=>rfl
 |_::_,[]=>rfl
theorem getD_map(os:List W)(j:Nat){w:W}(h:os[j]?=some w):(os.map W.toI).getD j 0=w.toI:=by
 rw[Ou,M2,h];rfl
theorem D.Xbn{T:List K}{fd:Qfz}(hT:Zw7 T fd){env:List (Nat×W)}{e:Nat->Int}(ha:Ag env e){d:D}{w:W}(h:d.cv fd env=some w):d.ev T e=w.toI:=by
 cases d with
 |bin op k a b =>
  simp only[D.cv]at h;split at h
  ·rename_i x y hx hy;cases h;simp only[D.ev,A.Xa5 ha hx,A.Xa5 ha hy];rfl
  ·cases h
 |cmp op a b =>
  simp only[D.cv]at h;split at h
  ·rename_i x y hx hy;cases h;simp only[D.ev,A.Xa5 ha hx,A.Xa5 ha hy];rfl
  ·cases h
 |conv k a =>
  simp only[D.cv]at h;split at h
  ·rename_i x hx;cases h;simp only[D.ev,A.Xa5 ha hx];rfl
  ·cases h
 |not a =>
  simp only[D.cv]at h;split at h
  ·rename_i x hx;cases h;simp only[D.ev,A.Xa5 ha hx];rfl
  ·cases h
 |app g j as =>
  simp only[D.cv]at h;split at h
  ·rename_i ws hws;split at h
   ·rename_i os hos;obtain⟨X,k1,_,k2⟩:=hT _ _ _ hos;simp only[D.ev,k1,Qp9 ha hws,k2];exact getD_map os j h
   ·cases h
  ·cases h
 |join as =>
  simp only[D.cv]at h;split at h
  ·rename_i l hl;cases h;simp only[D.ev,Qoa ha hl];rfl
  ·cases h
 |eqs l =>
  simp only[D.cv]at h;split at h
  ·rename_i b hb;cases h;simp only[D.ev,Qxq ha hb];rfl
  ·cases h
 |sel i as =>
  simp only[D.cv]at h;split at h
  ·rename_i k l hk hl;cases h;simp only[D.ev,Qoa ha hl,A.Xa5 ha hk];rfl
  ·cases h
 |put i j x y =>
  simp only[D.cv]at h;split at h
  ·rename_i k hk;simp only[D.ev,A.Xa5 ha hk];split at h
   ·rename_i hj;rw[if_pos hj];exact A.Xbn ha h
   ·rename_i hj;rw[if_neg hj];exact A.Xbn ha h
  ·cases h
 |llen x =>
  simp only[D.cv]at h;split at h
  ·rename_i l hl;cases h;simp only[D.ev,A.Xbg ha hl];rfl
  ·cases h
 |lget x i =>
  simp only[D.cv]at h;split at h
  ·rename_i l k hl hk;cases h;simp only[D.ev,A.Xbg ha hl,A.Xa5 ha hk];rfl
  ·cases h
 |lapp x ys =>
  simp only[D.cv]at h;split at h
  ·rename_i l k hl hk;cases h;simp only[D.ev,A.Xbg ha hl,Qoa ha hk];rfl
  ·cases h
 |lsub x lo hi =>
  simp only[D.cv]at h;split at h
  ·rename_i l a b hl h1 h2;cases h;simp only[D.ev,A.Xbg ha hl,A.Xa5 ha h1,A.Xa5 ha h2];rfl
  ·cases h
 |lput x i y =>
  simp only[D.cv]at h;split at h
  ·rename_i l a b hl h1 h2;cases h;simp only[D.ev,A.Xbg ha hl,A.Xa5 ha h1,A.Xa5 ha h2];rfl
  ·cases h
 |lrep n y =>
  simp only[D.cv]at h;split at h
  ·rename_i a b h1 h2;cases h;simp only[D.ev,A.Xa5 ha h1,A.Xa5 ha h2];rfl
  ·cases h
 |lcpy x y =>
  simp only[D.cv]at h;split at h
  ·rename_i a b h1 h2;cases h;simp only[D.ev,A.Xbg ha h1,A.Xbg ha h2];rfl
  ·cases h
 |lcat x y =>
  simp only[D.cv]at h;split at h
  ·rename_i a b h1 h2;cases h;simp only[D.ev,A.Xbg ha h1,A.Xbg ha h2];rfl
  ·cases h
 |lsame x y =>
  simp only[D.cv]at h;split at h
  ·rename_i a b h1 h2;cases h;simp only[D.ev,A.Xbg ha h1,A.Xbg ha h2,<- Qjb];rfl
  ·cases h
def Qq.clo(fd:Qfz)(goal:List W->Bool):Qq->List (Nat×W)->Bool
 |.ret as,env=>match Zh (A.cv env) as with|some ws=>goal ws|none=>false
 |.split n t f,env=>match lookW env n with
  |some (.wi x)=>if x=0 then f.clo fd goal env else t.clo fd goal env
  |_=>false
 |.l n _ d t,env=>match d.cv fd env with|some w=>t.clo fd goal ((n,w)::env)|none=>false
 |.req g as t,env=>match Zh (A.cv env) as with
  |some ws=>match fd g ws with|some _=>t.clo fd goal env|none=>false
  |none=>false
 |.nz a t,env=>match a.ci env with|some x=>if x=0 then false else t.clo fd goal env|none=>false
 |_,_=>false
theorem Bt{T:List K}{fd:Qfz}(hT:Zw7 T fd){goal:List W->Bool}{g:Gl}(hg:∀ws,goal ws=true->g.goal (ws.map W.toI)){e:Nat->Int} :
  ∀(t:Qq) (env:List (Nat×W)),t.clo fd goal env=true->Ag env e->t.Xat T g e
 |.ret as,env,h,ha=>by
  simp only[Qq.clo]at h;split at h
  ·rename_i ws hws;show g.goal _;rw[Qp9 ha hws];exact hg _ h
  ·cases h
 |.split n t f,env,h,ha=>by
  simp only[Qq.clo]at h;split at h
  ·rename_i x hx;have hv:e n=x:=Qbx hx ha;split at h
   ·rename_i h0;exact⟨fun hn=>absurd (hv.trans h0) hn,fun _=>Bt hT hg f env h ha⟩
   ·rename_i h0;exact⟨fun _=>Bt hT hg t env h ha,fun hn=>absurd (hv.symm.trans hn) h0⟩
  ·cases h
 |.l n kk d t,env,h,ha=>by
  simp only[Qq.clo]at h;split at h
  ·rename_i w hw;intro hv _;refine Bt hT hg t _ h fun p hp=>?_
   rcases Mh.1 hp with rfl|hp
   ·exact hv.trans (D.Xbn hT ha hw)
   ·exact ha p hp
  ·cases h
 |.req q as t,env,h,ha=>by
  simp only[Qq.clo]at h;split at h
  ·rename_i ws hws;split at h
   ·rename_i os hos;obtain⟨X,k1,k2,_⟩:=hT _ _ _ hos;refine⟨?_,Bt hT hg t env h ha⟩;rw[k1,Qp9 ha hws];exact k2
   ·cases h
  ·cases h
 |.nz a t,env,h,ha=>by
  simp only[Qq.clo]at h;split at h
  ·rename_i x hx;split at h
   ·cases h
   ·rename_i h0;exact⟨by rw[A.Xa5 ha hx];exact h0,Bt hT hg t env h ha⟩
  ·cases h
 |.loop _ _ _ _,_,h,_=>by simp[Qq.clo]at h
 |.back _ _,_,h,_=>by simp[Qq.clo]at h
 |.bad _ _,_,h,_=>by simp[Qq.clo]at h
end Go.Sx
