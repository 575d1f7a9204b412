/- Part He of the proof. -/
import Derived.Test.YtlloonffibabfaaGreatDoorHd
import Derived.Laws.OwnMore
import Derived.Maps.AppendAt
set_option linter.unusedVariables false
set_option linter.unusedSimpArgs false
namespace Go.Sx
open Go Go.RowKit
section
variable {P:Program}{T:List K}{w0:World}{m:M}{Y:St}{a:Act}{w:World}{o:Oper}{nn nid:Nat}
theorem Qls(h:Rep w0 m Y a w){nid:Nat}(hn:Y.boxes[nid]?=some none){old:Option Nat}{v0 v:Value}{w':World}{r:Row}
  (hgrow:w.grownBy w' v0.ownBlock) (hr:RowAt w0 w' r v (dec (r.x.ev m.env))) (hx:r.x.wf Y.nv m.env) (hx0:r.x0=r.x)
  (hold:match old with|none=>v0.ownBlock=none|some id=>∃b q,Y.boxes[id]?=some (some b)/\b.row=some q/\q.own=true/\m.sv id=v0)
  (hat:∀g,v.ownBlock=some g->v0.ownBlock=some g∨g=w.heap.size) :
  Rep w0 (m.row nid v) (({Y with boxes:=Sx.Xax Y.boxes old.toList }:St).Xas nid (Zc r)) a w' /\
  MExt m Y.nv Y.al (m.row nid v) Y.nv (({Y with boxes:=Sx.Xax Y.boxes old.toList }:St).Xas nid (Zc r)).al:=by
 have hal:=Qcb old.toList Y;have key:=(h.Xax old.toList).Xbr (nid:=nid) (Qhc _ hn) (row:=v0.ownBlock) hgrow (r:=r) (v:=v) (fun k hk=>?_) hx (by rw[hx0];exact hx) (by rw[hx0]) hr (fun g _ hg=>?_)
 ·rw[hal]at key;exact key
 ·cases old with
  |none=>simp only at hold;rw[hold]at hk;cases hk
  |some id =>
   obtain⟨b,q,hb,hq,hqo,hsv⟩:=hold;obtain⟨_,_,_,r4⟩:=h.rows id b q hb hq;have hk':(m.sv id).ownBlock=some k:=by rw[hsv];exact hk
   refine⟨(r4.lt hqo hk').1,fun id' b' hb' hbo e=>?_,fun id' b' r' hb' hr' ho' e=>?_⟩
   ·obtain⟨b0,h1,_,_,h4,_⟩:=X7 _ hb';exact h.rbox id b q hb hq hqo id' b0 h1 (h4.trans hbo) (by rw[hk',e])
   ·obtain⟨b0,h1,_,_,_,h5⟩:=X7 _ hb';rcases h5 with h5|⟨h5,h6⟩
    ·rw[hr']at h5;cases h5
    ·rcases h.rsep id b q id' b0 r' hb hq h1 (h5.trans hr') hqo ho' (fun e=>h6 (by simp[e]))with h7|h7
     ·rw[hk']at h7;cases h7
     ·rw[hk',e]at h7;exact h7 rfl
 ·rcases hat g hg with h1|h1
  ·exact .inl h1
  ·exact .inr (by omega)
theorem Qg1(k:LK)(l l':List Int):flat k (l++l')=flat k l++flat k l':=by simp[flat]
theorem Qrn(k:LK)(l:List Int):∀u∈flat k l,u.oneCell'=true:=by
 intro u hu;obtain⟨x,_,hx⟩:=Hm.1 hu;exact Xbf k x u hx
structure CatSpec (P:Program) (Y:St) (nn:Nat) (o:Oper) (g:Grow) (s x:Operand) (t:TypeId) (i:TypeInfo) (z:Value) (v:V):Prop where
 op:o.op=.call {callee:=.builtin .append,args:=#[s,x],argTypes:=#[t,t] }
 und:P.underlying t=some (.slice g.elem)
 info:P.info? g.elem=some i
 zero:i.zero=some z
 zs:z.cells.size=i.size
 size:i.size=g.k.sz
 bytes:i.bytes<=16384
 src:Y.v x=some v
 take:takeSh Y nn (.lst g.k) v=some (g.defs,[g.a])
 old:(g.old=none/\g.x0=.lit 0/\Y.cell s=some .nilslice)∨∃id' r,g.old=some id'/\g.x0=r.x/\Y.cell s=some (.sl id')/\Y.row id'=some r/\r.own=true/\r.elem=g.elem/\r.k=g.k
theorem Zmu{nn:Nat}{k:LK}{s:Operand}{ds:Defs}{y:A}(h:Qhx Y nn k s=some (ds,y)):∃v,Y.v s=some v/\takeSh Y nn (.lst k) v=some (ds,[y]):=by
 unfold Qhx at h;split at h
 ·rename_i v hv;split at h
  ·rename_i ds' y' htk;cases h;exact⟨v,hv,htk⟩
  ·cases h
 ·cases h
theorem Qed{nn:Nat}{g:Grow}(h:Qba P Y nn o.op=some g):∃s x t i z v,CatSpec P Y nn o g s x t i z v:=by
 unfold Qba at h;split at h
 ·rename_i c hop;split at h
  ·rename_i t t' s x hc ht hx;split at h
   ·rename_i htt;split at h
    ·rename_i e hu;split at h
     ·rename_i i k hi hk;split at h
      ·rename_i z hz;split at h
       ·rename_i hcond;simp only[Oo,beq_iff_eq,decide_eq_true_eq]at hcond;split at h
        ·rename_i ds y hsrc;obtain⟨v,hv,htk⟩:=Zmu hsrc;have hop':o.op=.call {callee:=.builtin .append,args:=#[s,x],argTypes:=#[t,t] }:=by
          have htt':t=t':=by simpa using htt
          subst htt';rw[hop];obtain⟨callee,args,tys⟩:=c;simp only at hc ht hx;subst hc;have ea:args=#[s,x]:=Array.ext' (by simpa using hx);have et:tys=#[t,t]:=Array.ext' (by simpa using ht);rw[ea,et]
         split at h
         ·rename_i hs;cases h;exact⟨s,x,t,i,z,v,⟨hop',hu,hi,hz,hcond.1.1,hcond.1.2,hcond.2,hv,htk,.inl ⟨rfl,rfl,hs⟩⟩⟩
         ·rename_i id' hs;split at h
          ·rename_i r hr;split at h
           ·rename_i hrc;simp only[Oo,beq_iff_eq]at hrc;cases h;exact⟨s,x,t,i,z,v,⟨hop',hu,hi,hz,hcond.1.1,hcond.1.2,hcond.2,hv,htk,.inr ⟨id',r,rfl,rfl,hs,hr,hrc.1.1,hrc.1.2,Zx hrc.2⟩⟩⟩
           ·cases h
          ·cases h
         ·cases h
        ·cases h
       ·cases h
      ·cases h
     ·cases h
    ·cases h
   ·cases h
  ·cases h
 ·cases h
theorem Qr5{w:World}{base:Nat}{e:TypeId}{size:Nat}{v:Value}{n:Nat}{xs:List Value}(h:w.ownsRow base e size v n xs):v.oneCell'=true:=by
 rcases h.2 with⟨h,_⟩|⟨g,cap,cur,h,_⟩ <;> rw[h] <;> rfl
theorem Qij(hR:Rep w0 m Y a w){g:Grow}{s x:Operand}{t:TypeId}{i:TypeInfo}{z:Value}{v:V}(G:CatSpec P Y nn o g s x t i z v) :
  g.x0.wf Y.nv m.env/\g.k.hasL (dec (g.x0.ev m.env))/\w.ownsRow w0.heap.size g.elem g.k.sz (a.eval s) (dec (g.x0.ev m.env)).length (flat g.k (dec (g.x0.ev m.env))) /\
   (match g.old with|none=>(a.eval s).ownBlock=none|some id=>∃b q,Y.boxes[id]?=some (some b)/\b.row=some q/\q.own=true/\m.sv id=a.eval s):=by
 rcases G.old with⟨h1,h2,h3⟩|⟨id',r,h1,h2,h3,h4,h5,h6,h7⟩
 ·have hs:a.eval s=.slice none 0 0:=hR.cell h3;rw[h1,h2,hs];simp only[A.ev,Qv];exact⟨⟨trivial,trivial⟩,⟨by simp,by simp⟩,World.ownsRow_nil ..,rfl⟩
 ·have hs:Y.al id'=true/\a.eval s=m.sv id'/\(a.eval s).oneCell'=true:=hR.cell h3;obtain⟨q1,q2,_,_,q3⟩:=hR.Xav h4;obtain⟨bx,hbx,hbr⟩:=Qdz h4;have q4:=q3.2.1;rw[h5]at q4;simp only[if_true]at q4;rw[h1,h2,<- h6,<- h7,hs.2.1];exact⟨q2,q3.1,q4,bx,r,hbx,hbr,h5,rfl⟩
theorem Zl2(hR:Rep w0 m Y a w){g:Grow}(hg:Qba P Y nn o.op=some g)(hnn:Y.nv<=nn):Zf T m.env nn (Qhm nn g):=by
 obtain⟨s,x,ty,i,z,v,G⟩:=Qed hg;obtain⟨k1,k2,k3⟩:=Vg (T:=T) G.take hR (hR.v_ G.src);obtain⟨k1,k4⟩:=k1 hnn;obtain⟨x1,x2,x3,x4⟩:=Qij hR G;generalize hl:dec (g.x0.ev m.env)=l at x2 x3;have ha:g.a.ok (nn+g.defs.length):=k4 _ (List.mem_singleton_self _);refine Q5 _ _ _ _ k1 fun e' he ht=>⟨A.Xar x1.1 (by omega),?_,⟨Hn _,trivial⟩,Q2 _,A.Xar ha (by omega),?_,⟨Hn _,trivial⟩,Q2 _,trivial⟩
 ·simp only[KK.has,D.ev];rw[A.Xaq x1.1 (fun j hj=>he j (by omega)),hl];have:=x2.1;simp only[has,lo,hi];omega
 ·have hyl:=(k3 e' (fun j hj=>he j (by omega)) ht).1;simp only[Mn,M7,Sh.leaves,Xq]at hyl;simp only[KK.has,D.ev];rw[A.Xaq ha (fun j hj=>by simp only[upd];rw[if_neg (by omega),if_neg (by omega)])];have:=hyl.1.1;simp only[has,lo,hi];omega
structure CatFacts (P:Program) (T:List K) (w0:World) (Y:St) (a:Act) (w:World) (g:Grow) (s x:Operand) (e1:Nat->Int) (l y:List Int):Prop where
 ex:dec (g.x0.ev e1)=l
 ey:dec (g.a.ev e1)=y
 lx:(l.length:Int)<2147483648
 ly:(y.length:Int)<2147483648
 hx:g.k.hasL l
 hy:g.k.hasL y
 own:w.ownsRow w0.heap.size g.elem g.k.sz (a.eval s) l.length (flat g.k l)
 rel:RoRow w w g.k (a.eval x) y
theorem Qnb(hR:Rep w0 m Y a w){g:Grow}{s x:Operand}{t:TypeId}{i:TypeInfo}{z:Value}{v:V}(G:CatSpec P Y nn o g s x t i z v){e1:Nat->Int}
  (he:∀j,j<Y.nv->e1 j=m.env j) (ht:Told T e1 nn (Qhm nn g)) (hz1:e1 (nn+(g.defs.length+1))≠0) (hz2:e1 (nn+(g.defs.length+3))≠0):∃l y,CatFacts P T w0 Y a w g s x e1 l y:=by
 obtain⟨k1,k2,k3⟩:=Vg (T:=T) G.take hR (hR.v_ G.src);obtain⟨x1,x2,x3,x4⟩:=Qij hR G;obtain⟨c1,c2⟩:=(Told.append).1 ht;have hx0e:g.x0.ev e1=g.x0.ev m.env:=A.Xaq x1.1 he;obtain⟨y1,y2⟩:=k3 e1 he c1;simp only[Mn,M7,Sh.leaves,Xq,Sh.rel,Lq]at y1 y2;generalize hl:dec (g.x0.ev m.env)=l at x2 x3;generalize hye:dec (g.a.ev e1)=y at y1 y2;have d0:e1 (nn+g.defs.length)=(l.length:Int):=by
  have:=(c2 0 _ _ rfl).1;simpa[D.ev,hx0e,hl]using this
 have d1:e1 (nn+g.defs.length+1)=Xo (decide (e1 (nn+g.defs.length)<2147483648)):=(c2 1 _ _ rfl).1;have d2:e1 (nn+g.defs.length+2)=(y.length:Int):=by
  have:=(c2 2 _ _ rfl).1;simpa[D.ev,hye]using this
 have d3:e1 (nn+g.defs.length+3)=Xo (decide (e1 (nn+(g.defs.length+2))<2147483648)):=(c2 3 _ _ rfl).1;refine⟨l,y,⟨by rw[hx0e];exact hl,hye,?_,?_,x2,y1.1,x3,y2⟩⟩
 ·have h0:e1 (nn+g.defs.length+1)≠0:=hz1;have:=Wg (b:=e1 (nn+g.defs.length)<2147483648) (by rw[<- d1];exact h0);rw[d0]at this;exact this
 ·have h0:e1 (nn+g.defs.length+3)≠0:=hz2;have:=Wg (b:=e1 (nn+(g.defs.length+2))<2147483648) (by rw[<- d3];exact h0);rw[show nn+(g.defs.length+2)=nn+g.defs.length+2 by omega,d2]at this;exact this
theorem CatFacts.has{g:Grow}{s x:Operand}{e1:Nat->Int}{l y:List Int}(F:CatFacts P T w0 Y a w g s x e1 l y):g.k.hasL (l++y):=by
 have h1:=F.lx;have h2:=F.ly;exact⟨by simp;omega,fun q hq=>by
  rcases L5.1 hq with hq|hq
  ·exact F.hx.2 q hq
  ·exact F.hy.2 q hq⟩
theorem Zfc(hR:Rep w0 m Y a w){g:Grow}(hg:Qba P Y nn o.op=some g)(hnn:Y.nv<=nn){e1:Nat->Int}
  (he:∀j,j<nn->e1 j=m.env j) (ht:Told T e1 nn (Qhm nn g)) (hz1:e1 (nn+(g.defs.length+1))≠0) (hz2:e1 (nn+(g.defs.length+3))≠0):Zf T e1 (nn+(Qhm nn g).length) [(.lst g.k,.lcat g.x0 g.a)]:=by
 obtain⟨s,x,ty,i,z,v,G⟩:=Qed hg;obtain⟨l,y,F⟩:=Qnb (T:=T) hR G (fun j hj=>he j (by omega)) ht hz1 hz2;obtain⟨k1,k2,k3⟩:=Vg (T:=T) G.take hR (hR.v_ G.src);have ha:g.a.ok (nn+g.defs.length):=(k1 hnn).2 _ (List.mem_singleton_self _);refine⟨⟨A.Xar (Qij hR G).1.1 (by omega),A.Xar ha (by simp[Qhm])⟩,?_,trivial⟩;simp only[KK.has,D.ev,F.ex,F.ey,Qu];exact F.has
theorem Zf2(hR:Rep w0 m Y a w)(hn:Y.boxes[nid]?=some none){g:Grow}(hg:Qba P Y nn o.op=some g)
  (ht:Told T m.env nn (Qhm nn g)) (hz1:m.env (nn+(g.defs.length+1))≠0) (hz2:m.env (nn+(g.defs.length+3))≠0) (ht2:Told T m.env (nn+(Qhm nn g).length) [(.lst g.k,.lcat g.x0 g.a)]) (hle:nn+(g.defs.length+5)<=Y.nv)
  {K:Act->World->Prop} {Q:Exit->Act->World->Prop}
  (hK:∀ m' a' w',m'.env=m.env->MExt m Y.nv Y.al m' Y.nv (({Y with boxes:=(Sx.Xax Y.boxes g.old.toList).set nid (some (Zc {x:=.v (nn+(g.defs.length+4)),x0:=.v (nn+(g.defs.length+4)),k:=g.k,elem:=g.elem,own:=true,full:=false })) }:St).put o.dst (.vl (.one (.sl nid)))).al ->
   Rep w0 m' (({Y with boxes:=(Sx.Xax Y.boxes g.old.toList).set nid (some (Zc {x:=.v (nn+(g.defs.length+4)),x0:=.v (nn+(g.defs.length+4)),k:=g.k,elem:=g.elem,own:=true,full:=false })) }:St).put o.dst (.vl (.one (.sl nid)))) a' w'->K a' w'):o.wp P a w K Q:=by
 obtain⟨s,x,ty,i,z,v,G⟩:=Qed hg;obtain⟨l,y,F⟩:=Qnb (T:=T) hR G (fun j hj=>rfl) ht hz1 hz2;obtain⟨x1,x2,x3,x4⟩:=Qij hR G;have hlx:=F.lx;have hly:=F.ly;have hbytes:(l.length+y.length)*i.bytes<=140737488355328:=by
  have:=G.bytes;have h1:(l.length+y.length)*i.bytes<=4294967296*16384:=Nat.mul_le_mul (by omega) this;omega
 have run:∃v' w',(Builtin.append_ #[ty,ty] o.type #[a.eval s,a.eval x]).run P w=.ok v' w'/\w'.ownsRow w0.heap.size g.elem g.k.sz v' (l.length+y.length) (flat g.k l++flat g.k y)/\w.grownBy w' (a.eval s).ownBlock /\
   (∀q,v'.ownBlock=some q->(a.eval s).ownBlock=some q∨q=w.heap.size):=by
  rcases F.rel with⟨hs,hy0⟩|⟨ad,scap,hs,hb,hsc,hcell⟩
  ·have h0:=run_append_owned_none (P:=P) (w:=w) w0.heap.size ty o.type g.elem i g.k.sz G.und G.info (a.eval s) l.length (flat g.k l) F.own;refine⟨a.eval s,w,by rw[hs];exact h0,?_,⟨rfl,rfl,rfl,Nat.le_refl _,fun _ _ _=>rfl⟩,fun q hq=>.inl hq⟩;rw[hy0];simpa[flat]using F.own
  ·obtain⟨v',w',h1,h2,h3,_,h5⟩:=run_append_own_at (P:=P) w w0.heap.size ty o.type g.elem i z g.k.sz i.bytes G.und G.info G.zero G.size rfl (G.zs.trans G.size) (Xbi _) (a.eval s) l.length (flat g.k l) F.own ad y.length scap (flat g.k y) (Um _ _) hcell (Qrn _ _)
    (by simp only[maxLen];omega) hbytes hR.below.size
   refine⟨v',w',by rw[hs];exact h1,h2,h3,fun q hq=>?_⟩;rcases h5 with h5|h5
   ·exact .inl (by rw[<- h5];exact hq)
   ·rw[h5]at hq;cases hq;exact .inr rfl
 obtain⟨v',w',hrun,hown',hgrow,hat⟩:=run;have hlen:(Qhm nn g).length=g.defs.length+4:=by simp[Qhm]
 have hv0:m.env (nn+(g.defs.length+4))=enc (l++y):=by
  have:=(ht2 0 _ _ rfl).1;rw[hlen]at this;simpa[D.ev,F.ex,F.ey]using this
 have hev:dec (A.ev m.env (.v (nn+(g.defs.length+4))))=l++y:=by simp only[A.ev,hv0,Qu]
 obtain⟨r1,r2⟩:=Qls hR hn (old:=g.old) (v0:=a.eval s) (v:=v') (w':=w') (r:={x:=.v (nn+(g.defs.length+4)),x0:=.v (nn+(g.defs.length+4)),k:=g.k,elem:=g.elem,own:=true,full:=false }) hgrow
  (by rw[hev];exact⟨F.has,by simp only[if_true];rw[Qg1,O2];exact hown',fun h=>by cases h⟩) ⟨by show nn+(g.defs.length+4)<Y.nv;omega,trivial⟩ rfl x4 hat
 have hnl:nid<(Sx.Xax Y.boxes g.old.toList).length:=by rw[Uo];exact(Ow.1 hn).1
 have Jd:=r1.put (s:=.vl (.one (.sl nid))) (v:=v') ⟨by
  rw[Zv];simp[hnl],by simp[M.row],Qr5 hown'⟩ o.dst
 have hal:∀(B:St) (d:Option Nat) (q:SV),(B.put d q).al=B.al/\(B.put d q).nv=B.nv:=fun B d q=>by cases d <;> exact⟨rfl,rfl⟩
 have hex:(execOp a.eval o).run P w=.ok (.value v') w':=by
  simp only[execOp,G.op,resolve];simp only[invoke,builtin,Sem.run_bind,Sem.run_pure,Result.andThen_ok,List.map_toArray,Mn,M7,hrun]
 unfold Oper.wp;rw[hex];refine hK (m.row nid v') _ _ rfl ?_ Jd;rw[(hal _ _ _).1];exact r2
theorem Vb{t:TypeId}{len:Nat}{ps:Array (Nat×Operand)}{p:Plan}(h:Qfh P nid t len ps=some p):len=0/\ps.toList=[]/\∃e i k,P.underlying t=some (.slice e)/\P.info? e=some i/\i.size=k.sz /\
  p={val:=.vl (.one (.sl nid)),eff:=.new (Zc {x:=.lit 0,x0:=.lit 0,k:=k,elem:=e,own:=true,full:=true }) }:=by
 unfold Qfh at h;split at h
 ·rename_i hc;simp only[Oo,beq_iff_eq,List.isEmpty_iff]at hc;split at h
  ·rename_i e hu;split at h
   ·rename_i i k hi hk;split at h
    ·rename_i hs;simp only[beq_iff_eq]at hs;cases h;exact⟨hc.1,hc.2,e,i,k,hu,hi,hs,rfl⟩
    ·cases h
   ·cases h
  ·cases h
 ·cases h
theorem Qvh(hR:Rep w0 m Y a w){t:TypeId}{len:Nat}{ps:Array (Nat×Operand)}{p:Plan}(ho:o.op=.buildSlice t len ps)(hp:Qfh P nid t len ps=some p)(hn:Y.boxes[nid]?=some none)
  {K:Act->World->Prop} {Q:Exit->Act->World->Prop}
  (hK:∀m' a' w',m'.env=m.env->MExt m Y.nv Y.al m' Y.nv (Qaj Y p nid o.dst).al->Rep w0 m' (Qaj Y p nid o.dst) a' w'->K a' w'):o.wp P a w K Q:=by
 obtain⟨h1,h2,e,i,k,hu,hi,hs,rfl⟩:=Vb hp;subst h1;have hps:ps=#[]:=Array.ext' h2;subst hps;have hown:(w.alloc (.cells #[] e)).ownsRow w0.heap.size e k.sz (.slice (some ⟨w.heap.size,0,none⟩) 0 0) 0 []:=World.ownsRow_made w #[] 0 hR.below.size (Nat.zero_le _) (by simp);have hgrow:w.grownBy (w.alloc (.cells #[] e)) none:=World.grownBy_alloc _ _ _
 obtain⟨r1,r2⟩:=Qls hR hn (old:=none) (v0:=.slice none 0 0) (v:=.slice (some ⟨w.heap.size,0,none⟩) 0 0) (w':=w.alloc (.cells #[] e)) (r:={x:=.lit 0,x0:=.lit 0,k:=k,elem:=e,own:=true,full:=true }) hgrow
  (by simp only[A.ev,Qv];exact⟨⟨by simp,by simp⟩,by simp only[if_true];exact hown,fun _=>rfl⟩) ⟨trivial,trivial⟩ rfl rfl (fun q hq=>.inr (by simpa[Value.ownBlock]using hq.symm))
 ·have hnl:nid<Y.boxes.length:=(Ow.1 hn).1;have Jd:=r1.put (s:=.vl (.one (.sl nid))) (v:=.slice (some ⟨w.heap.size,0,none⟩) 0 0) ⟨by
   rw[Zv];simp[Xax,hnl],by simp[M.row],rfl⟩ o.dst
  have eq:Qaj Y {val:=.vl (.one (.sl nid)),eff:=.new (Zc {x:=.lit 0,x0:=.lit 0,k:=k,elem:=e,own:=true,full:=true }) } nid o.dst=(Y.Xas nid (Zc {x:=.lit 0,x0:=.lit 0,k:=k,elem:=e,own:=true,full:=true })).put o.dst (.vl (.one (.sl nid))):=by rw[Qa3];rfl
  have hal:∀(B:St) (d:Option Nat) (q:SV),(B.put d q).al=B.al:=fun B d q=>by cases d <;> rfl
  have hex:(execOp a.eval o).run P w=.ok (.value (.slice (some ⟨w.heap.size,0,none⟩) 0 0)) (w.alloc (.cells #[] e)):=by
   have hsz:szOf P e=some i.size:=by simp[szOf,hi]
   have he:Array.map (fun(_:Nat)=>(default:Value)) (Array.range 0)=#[]:=Array.ext' (by simp);simp only[execOp,ho,Instr.buildSlice];simp only[Sem.run_bind,run_underlying hu,Result.andThen_ok,run_sizeOf hsz];simp[he,newRow,Instr.fill]
  unfold Oper.wp;rw[hex];refine hK (m.row nid _) _ _ rfl ?_ (by rw[eq];exact Jd);rw[eq,hal];exact r2
end
section
variable {P:Program}{T:List K}{w0:World}{m:M}{Y:St}{a:Act}{w:World}{o:Oper}{nn nid:Nat}{p:Plan}{K:Act->World->Prop}{Q:Exit->Act->World->Prop}
theorem Bn{m:M}{nv:Nat}{al:Nat->Bool}:∀ {caps:List (Nat×Nat)},(∀p∈caps,al p.1=true)->Zi m nv al (caps.map fun p=>V.one (.ptr p.1 p.2)) (caps.map fun p=>Value.pointer (some (m.at p.1 p.2)))
 |[],_=>trivial
 |q::caps,hc=>⟨⟨hc q (Mr ..),rfl⟩,Bn fun z hz=>hc z (Mq _ hz)⟩
theorem Zka{f:FuncId}:∀(T T':List Sx.K) (n g:Nat) (X:Sx.K),(∀i,T'[n+i]?=T[i]?)->Qgk T f n=some (g,X)->T'[g]?=some X/\X.fn=f:=by
 intro T
 induction T with
 |nil=>intro T' n g X _ h;simp[Qgk]at h
 |cons k T ih =>
  intro T' n g X hi h;unfold Qgk at h;simp only at h;split at h
  ·rename_i hk;simp at h hk;obtain⟨rfl,rfl⟩:=h;exact⟨by simpa using hi 0,hk⟩
  ·exact ih T' (n+1) g X (fun i=>by have:=hi (i+1);rwa[show n+(i+1)=n+1+i by omega]at this) h
theorem Zi1{f:FuncId}{vs:List V}:∀(T T':List Sx.K) (n g:Nat) (X:Sx.K),(∀i,T'[n+i]?=T[i]?)->Qsb T f vs n=some (g,X)->T'[g]?=some X/\X.fn=f:=by
 intro T
 induction T with
 |nil=>intro T' n g X _ h;simp[Qsb]at h
 |cons k r ih =>
  intro T' n g X hi h;unfold Qsb at h;simp only at h;split at h
  ·rename_i hf;cases h;exact⟨by simpa using hi 0,by simp only[Oo,beq_iff_eq]at hf;exact hf.1⟩
  ·exact ih T' (n+1) g X (fun i=>by rw[Kn,H2 1 i];simpa using hi (i+1)) h
theorem Qtl{f:FuncId}{vs:List V}{T:List Sx.K}{g:Nat}{X:Sx.K}(h:Qz4 T f vs=some (g,X)):T[g]?=some X/\X.fn=f:=by
 unfold Qz4 at h;split at h
 ·rename_i r hr;cases h;exact Zi1 T T 0 g X (fun i=>by rw[M5]) hr
 ·exact Zka T T 0 g X (fun i=>by rw[M5]) h
theorem Qoe{nv:Nat}{al:Nat->Bool}{vs:List V}{us:List Value}(h:Zi m nv al vs us):(Qc3 vs).rel m nv al (Qho us):=by
 have hl:=h.length
 match vs,us,h with
 |[],[],_=>exact⟨[],rfl,trivial⟩
 |[v],[u],h=>exact h.1
 |v::v'::vs,u::u'::us,h=>exact⟨_,rfl,h⟩
 |[v],u::u'::us,h=>simp at hl
 |v::v'::vs,[u],h=>simp at hl
theorem Qco{c:Call}{x:Operand}{f:FuncId}{caps:Array Value}(ho:o.op=.call c)(hc:c.callee=.value x)(hx:a.eval x=.func (.func f) #[] caps) :
  (execOp a.eval o).run P w=(callFunc f (c.args.map a.eval++caps)).run P w:=by
 simp only[execOp,ho,resolve,hc,hx,Deferred.ofValue];simp[invoke]
theorem Q7(h:Rep w0 m Y a w)(hp:Zt P m Y a w o p.val)(he:p.eff=.none)
  (hK:∀m' a' w',m'.env=m.env->MExt m Y.nv Y.al m' Y.nv (Qaj Y p nid o.dst).al->Rep w0 m' (Qaj Y p nid o.dst) a' w'->K a' w'):o.wp P a w K Q:=by
 obtain⟨v,h1,h2⟩:=hp;unfold Oper.wp;rw[h1];have e:Qaj Y p nid o.dst=Y.put o.dst p.val:=by simp[Qa3,he]
 have hal:(Y.put o.dst p.val).al=Y.al:=by cases o.dst <;> rfl
 refine hK m _ _ rfl ?_ ?_
 ·rw[e,hal];exact MExt.refl _ _ _
 ·rw[e];exact h.put h2 _
theorem Qk0(h:Rep w0 m Y a w)(hn:Y.boxes[nid]?=some none){e:TypeId}{cs:List C}{f:Addr->Value}{s:SV}(hpe:p={val:=s,eff:=.new {cells:=cs,elem:=e,own:=true } })(hp:Qzl P m Y a w o e cs f)
  (hs:∀m' nv al,al nid=true->m'.rho nid=(w.heap.size,0)->s.rel m' nv al (f ⟨w.heap.size,0,none⟩))
  (hK:∀m' a' w',m'.env=m.env->MExt m Y.nv Y.al m' Y.nv (Qaj Y p nid o.dst).al->Rep w0 m' (Qaj Y p nid o.dst) a' w'->K a' w'):o.wp P a w K Q:=by
 obtain⟨vs,h1,h2⟩:=hp;unfold Oper.wp;rw[h1];subst hpe;have hb:Below w.heap.size w (w.alloc (.cells vs.toArray e)):=(Below.refl _ _).alloc (Nat.le_refl _) _;obtain⟨g1,g2⟩:=h.new hn hb (Nat.le_refl _) (e:=e) (vs:=vs) (by show(w.heap.push _)[w.heap.size]?=_;simp) h2;have eq:Qaj Y {val:=s,eff:=.new {cells:=cs,elem:=e,own:=true } } nid o.dst=(Y.Xas nid {cells:=cs,elem:=e,own:=true }).put o.dst s:=by rw[Qa3];rfl
 have hnl:nid<Y.boxes.length:=(Ow.1 hn).1;have hal:((Y.Xas nid {cells:=cs,elem:=e,own:=true }).put o.dst s).al=(Y.Xas nid {cells:=cs,elem:=e,own:=true }).al:=by cases o.dst <;> rfl
 refine hK (m.bind nid w.heap.size) _ _ rfl ?_ ?_
 ·rw[eq,hal];exact g2
 ·rw[eq];exact g1.put (hs _ _ _ (by rw[Zv];simp[hnl]) (by simp[M.bind])) _
theorem Qol(hT:∀(g:Nat) X,T[g]?=some X->X.Xbm P w0)(h:Rep w0 m Y a w)(hp:Qy P T Y nn nid o.op=.ok p)(hn:Vd p.eff=true->Y.boxes[nid]?=some none)
  (ht:Told T m.env nn p.defs) (ht2:Told T m.env (nn+p.defs.length) p.post) (hle:nn+p.defs.length+p.post.length<=Y.nv) (hz:∀x∈p.nz,x.ev m.env≠0)
  (hr:∀q∈p.reqs,match T[q.1]? with|some X=>X.pre (q.2.map (·.ev m.env))|none=>False)
  (hK:∀m' a' w',m'.env=m.env->MExt m Y.nv Y.al m' Y.nv (Qaj Y p nid o.dst).al->Rep w0 m' (Qaj Y p nid o.dst) a' w'->K a' w'):o.wp P a w K Q:=by
 have hd:Zl T m.env Y.nv nn p.defs:=⟨by omega,ht⟩
 cases ho:o.op with
 |move x=>exact Q7 h (Qmh h (.inl ho) hp) (by rw[ho]at hp;simp only[Qy]at hp;split at hp <;> cases hp;rfl) hK
 |assign x=>exact Q7 h (Qmh h (.inr ho) hp) (by rw[ho]at hp;simp only[Qy]at hp;split at hp <;> cases hp;rfl) hK
 |pick c x y =>
  refine Q7 h (Zcp h ho hp) ?_ hK;rw[ho]at hp;simp only[Qy]at hp;repeat' split at hp
  all_goals (first|(cases hp;done)|(cases hp;rfl))
 |alloc e =>
  obtain⟨cs,h1,h2⟩:=Zdu (m:=m) (Y:=Y) (a:=a) (w:=w) ho hp;exact Qk0 h (hn (by rw[h1];rfl)) h1 h2 (fun m' nv al h3 h4=>⟨h3,by simp[M.at,h4]⟩) hK
 |box e x =>
  obtain⟨cs,h1,h2⟩:=Znj h ho hp;exact Qk0 h (hn (by rw[h1];rfl)) h1 h2 (fun m' nv al h3 h4=>⟨h3,by simp[M.at,h4]⟩) hK
 |buildSlice t len ps =>
  cases he:Qfh P nid t len ps with
  |some q =>
   rw[ho]at hp;simp only[Qy,he]at hp;cases hp;obtain⟨_,_,_,_,_,_,_,_,hq⟩:=Vb he;exact Qvh h ho he (hn (by rw[hq];rfl)) hK
  |none =>
  obtain⟨cs,e,h1,h2⟩:=Qk8 h ho he hp;exact Qk0 h (hn (by rw[h1];rfl)) h1 h2 (fun m' nv al h3 h4=>⟨h3,by simp[M.at,h4]⟩) hK
 |build t ps =>
  refine Q7 h (Qwg h ho hp) ?_ hK;rw[ho]at hp;simp only[Qy]at hp;repeat' split at hp
  all_goals (first|(cases hp;done)|(cases hp;rfl))
 |load t x =>
  refine Q7 h (Zdq h ho hp hd) ?_ hK;rw[ho]at hp;simp only[Qy,Ji]at hp;repeat' split at hp
  all_goals (first|(cases hp;done)|(cases hp;rfl))
 |nilCheck x =>
  refine Q7 h (Ql6 h ho hp) ?_ hK;rw[ho]at hp;simp only[Qy]at hp;repeat' split at hp
  all_goals (first|(cases hp;done)|(cases hp;rfl))
 |binOp op t x y yt =>
  refine Q7 h (Quj h ho hp hd hz) ?_ hK;rw[ho]at hp;simp only[Qy]at hp;split at hp
  ·split at hp
   ·rename_i q hq;cases hp;obtain⟨_,_,_,_,_,_,_,_,_,rfl⟩:=Yh hq;rfl
   ·simp only[Jm,U0,Bj,Vj]at hp;repeat' split at hp
    all_goals (first|(cases hp;done)|(cases hp;rfl))
  ·cases hp
 |unOp op t x =>
  refine Q7 h (Zdk h ho hp hd) ?_ hK;rw[ho]at hp;simp only[Qy,Bj]at hp;repeat' split at hp
  all_goals (first|(cases hp;done)|(cases hp;rfl))
 |convert s d x =>
  cases hm:Qbk P Y s d x with
  |some q =>
   rw[ho]at hp;simp only[Qy,hm]at hp;cases hp;obtain⟨id,b,w',c,v,e1,e2,e3,e4,e5,e6⟩:=Zlj h ho hm;have eq:Qaj Y p nid o.dst=(Y.Xas id (b.upd .mark)).put o.dst (.vl (.one c)):=by rw[Qa3,e2,e1];simp only[e3];rfl
   have hals:(Y.Xas id (b.upd .mark)).al=Y.al:=by
    funext i
    rw[Zv];split
    ·rename_i hi;rw[hi.1];exact(Vp.2 ⟨b,e3⟩).symm
    ·rfl
   have hal:((Y.Xas id (b.upd .mark)).put o.dst (.vl (.one c))).al=Y.al:=by
    rw[<- hals];cases o.dst <;> rfl
   unfold Oper.wp;rw[e4];refine hK m _ _ rfl ?_ ?_
   ·rw[eq,hal];exact MExt.refl _ _ _
   ·rw[eq];exact e6.put (show SV.rel m Y.nv (Y.Xas id (b.upd .mark)).al (.vl (.one c)) v by rw[hals];exact e5) _
  |none =>
  refine Q7 h (Qon h ho hm hp hd) ?_ hK;rw[ho]at hp;simp only[Qy,hm,Bj,Vj]at hp;repeat' split at hp
  all_goals (first|(cases hp;done)|(cases hp;rfl))
 |sliceToArrayPointer t x =>
  refine Q7 h (Qtr h ho hp) ?_ hK;rw[ho]at hp;simp only[Qy,Vj]at hp;repeat' split at hp
  all_goals (first|(cases hp;done)|(cases hp;rfl))
 |makeFunc fn first caps =>
  refine Q7 h (Qlz h ho hp) ?_ hK;rw[ho]at hp;simp only[Qy,Vj]at hp;repeat' split at hp
  all_goals (first|(cases hp;done)|(cases hp;rfl))
 |slice t x lo hi mx =>
  refine Q7 h (Qw1 h ho hp hd hz) ?_ hK;rw[ho]at hp;simp only[Qy,Vj,Ut,Qa4]at hp;repeat' split at hp
  all_goals (first|(cases hp;done)|(cases hp;rfl))
 |fieldAddr s x f =>
  refine Q7 h (Qjy h ho hp) ?_ hK;rw[ho]at hp;simp only[Qy,Vj]at hp;repeat' split at hp
  all_goals (first|(cases hp;done)|(cases hp;rfl))
 |field t x f =>
  refine Q7 h (Qup h ho hp) ?_ hK;rw[ho]at hp;simp only[Qy,Uj,Vj]at hp;repeat' split at hp
  all_goals (first|(cases hp;done)|(cases hp;rfl))
 |indexAddr t x i =>
  refine Q7 h (Qlk h ho hp hd hz) ?_ hK;rw[ho]at hp;simp only[Qy,Vj]at hp;repeat' split at hp
  all_goals (first|(cases hp;done)|(cases hp;rfl))
 |index t x i =>
  refine Q7 h (Quw h ho hp hd hz) ?_ hK;rw[ho]at hp;simp only[Qy,Uj,Vj]at hp;repeat' split at hp
  all_goals (first|(cases hp;done)|(cases hp;rfl))
 |extract x i =>
  refine Q7 h (Qo2 h ho hp) ?_ hK;rw[ho]at hp;simp only[Qy]at hp;repeat' split at hp
  all_goals (first|(cases hp;done)|(cases hp;rfl))
 |store t x y =>
  obtain⟨id,u,b,w',h0,h1,h2,h3,h4⟩:=Qp7 h ho hp hd;unfold Oper.wp;rw[h3];have eq:Qaj Y p nid o.dst=(Y.Xas id (b.upd u)).put o.dst (.tup []):=by
   simp only[Qa3,h0,h1,h2];rfl
  have hal0:(Y.Xas id (b.upd u)).al=Y.al:=by
   funext i
   rw[Zv];split
   ·rename_i hi;rw[hi.1];exact(Vp.2 ⟨b,h2⟩).symm
   ·rfl
  have hal:((Y.Xas id (b.upd u)).put o.dst (.tup [])).al=Y.al:=by
   rw[<- hal0];cases o.dst <;> rfl
  refine hK m _ _ rfl ?_ ?_
  ·rw[eq,hal];exact MExt.refl _ _ _
  ·rw[eq];exact h4.put (s:=.tup []) (v:=undef) ⟨[],rfl,trivial⟩ _
 |call c =>
  rw[ho]at hp;simp only[Qy]at hp;split at hp
  ·cases hp
  ·rename_i args hargs;have hvr:=Qe2 h _ _ hargs;split at hp
   ·
    rename_i hcal;have key:∀n:Nat,(Builtin.len_ c.argTypes o.type (c.args.map a.eval)).run P w=.ok (goInt n) w->p={val:=.vl (.one (.int .i64 (.lit n))) }->(n:Int)<=9223372036854775807->o.wp P a w K Q:=by
     intro n hlen hpn hb;refine Q7 h ⟨.int .i64 n,?_,?_⟩ (by rw[hpn]) hK
     ·simp only[execOp,ho,resolve,hcal];simp[invoke,builtin,hlen,goInt]
     ·rw[hpn];exact⟨⟨trivial,trivial⟩,by simp only[A.ev,has,lo,hi];omega,rfl⟩
    split at hp
    ·cases hp
    ·rename_i t hct;split at hp
     ·rename_i e id off n cap hu;split at hp
      ·rename_i hb;cases hp
       match hcl:c.args.toList.map a.eval,hvr with
       |[v],hvr =>
        have hca:c.args.map a.eval=#[v]:=Array.ext' (by simpa using hcl);refine key n ?_ rfl (by omega);have hv:=hvr.1.2;rw[hca,hv];simp[Builtin.len_,hct,run_underlying hu]
      ·cases hp
     ·rename_i e hu;cases hp
      match hcl:c.args.toList.map a.eval,hvr with
      |[v],hvr =>
       have hca:c.args.map a.eval=#[v]:=Array.ext' (by simpa using hcl);refine key 0 ?_ rfl (by omega);have hv:v=.slice none 0 0:=hvr.1;rw[hca,hv];simp[Builtin.len_,hct,run_underlying hu]
     ·rename_i e z hu;cases hp
      match hcl:c.args.toList.map a.eval,hvr with
      |[v],hvr =>
       have hca:c.args.map a.eval=#[v]:=Array.ext' (by simpa using hcl);obtain⟨_,⟨hL,hcase⟩,_⟩:=(show C.rel m Y.nv Y.al (.ll z) v from hvr.1)
       have q4:=hL.1;obtain⟨bb,cap,hform⟩:∃bb cap,v=.slice bb (dec (A.ev m.env z)).length cap:=by
        rcases hcase with⟨k1,k2⟩|⟨ad,cap,k1,_⟩
        ·exact⟨none,0,by rw[k1,k2];rfl⟩
        ·exact⟨_,cap,k1⟩
       have d0:m.env nn=((dec (A.ev m.env z)).length:Int):=by
        have:=Zl.snd (i:=0) hd rfl;simpa[D.ev]using this
       have hpo:Zt P m Y a w o (.vl (.one (.int .i64 (.v nn)))):=by
        refine⟨.int .i64 (dec (A.ev m.env z)).length,?_,⟨?_,trivial⟩,?_,?_⟩
        ·simp only[execOp,ho,resolve,hcal];simp[invoke,builtin,Builtin.len_,hct,run_underlying hu,hca,hform,goInt]
        ·have:=hd.1;simp only[A.ok,Ov,O5]at *;omega
        ·show has .i64 (m.env nn);rw[d0];simp only[has,lo,hi];omega
        ·show _=Value.int .i64 (m.env nn);rw[d0]
       exact Q7 h hpo rfl hK
     ·rename_i e z hu;cases hp
      match hcl:c.args.toList.map a.eval,hvr with
      |[v],hvr =>
       have hca:c.args.map a.eval=#[v]:=Array.ext' (by simpa using hcl);obtain⟨_,hL,hcase,_⟩:=(show C.rel m Y.nv Y.al (.rol z) v from hvr.1)
       have q4:=hL.1;obtain⟨bb,cap,hform⟩:∃bb cap,v=.slice bb (dec (A.ev m.env z)).length cap:=by
        rcases hcase with⟨k1,k2⟩|⟨ad,cap,k1,_⟩
        ·exact⟨none,0,by rw[k1,k2];rfl⟩
        ·exact⟨_,cap,k1⟩
       have d0:m.env nn=((dec (A.ev m.env z)).length:Int):=by
        have:=Zl.snd (i:=0) hd rfl;simpa[D.ev]using this
       have hpo:Zt P m Y a w o (.vl (.one (.int .i64 (.v nn)))):=by
        refine⟨.int .i64 (dec (A.ev m.env z)).length,?_,⟨?_,trivial⟩,?_,?_⟩
        ·simp only[execOp,ho,resolve,hcal];simp[invoke,builtin,Builtin.len_,hct,run_underlying hu,hca,hform,goInt]
        ·have:=hd.1;simp only[A.ok,Ov,O5]at *;omega
        ·show has .i64 (m.env nn);rw[d0];simp only[has,lo,hi];omega
        ·show _=Value.int .i64 (m.env nn);rw[d0]
       exact Q7 h hpo rfl hK
     ·rename_i e id hu;split at hp
      ·rename_i r hrow;cases hp
       match hcl:c.args.toList.map a.eval,hvr with
       |[v],hvr =>
        have hca:c.args.map a.eval=#[v]:=Array.ext' (by simpa using hcl);have hv:Y.al id=true/\v=m.sv id/\v.oneCell'=true:=hvr.1;obtain⟨q1,q2,q5,q6,q3⟩:=h.Xav hrow;have q4:=q3.1.1;obtain⟨bb,cap,hlen⟩:=q3.len;have d0:m.env nn=((dec (A.ev m.env r.x)).length:Int):=by
         have:=Zl.snd (i:=0) hd rfl;simpa[D.ev,q6]using this
        have hpo:Zt P m Y a w o (.vl (.one (.int .i64 (.v nn)))):=by
         refine⟨.int .i64 (dec (A.ev m.env r.x)).length,?_,⟨?_,trivial⟩,?_,?_⟩
         ·simp only[execOp,ho,resolve,hcal];simp[invoke,builtin,Builtin.len_,hct,run_underlying hu,hca,hv.2.1,hlen,goInt]
         ·have:=hd.1;simp only[A.ok,Ov,O5]at *;omega
         ·show has .i64 (m.env nn);rw[d0];simp only[has,lo,hi];omega
         ·show _=Value.int .i64 (m.env nn);rw[d0]
        exact Q7 h hpo rfl hK
      ·cases hp
     ·rename_i e id lo' hi' k' hu;split at hp
      ·rename_i r hrow;split at hp
       ·rename_i hzl;have hz0:=Qdd hzl;subst hz0;cases hp
        match hcl:c.args.toList.map a.eval,hvr with
        |[v],hvr =>
         have hca:c.args.map a.eval=#[v]:=Array.ext' (by simpa using hcl);obtain⟨b1,b2,b3,b4,b5,b6⟩:=(show C.rel m Y.nv Y.al (.slv id (.lit 0) hi' k') v from hvr.1)
         obtain⟨q1,q2,q5,q6,q3⟩:=h.Xav hrow;obtain⟨bb,cap,hlen⟩:=q3.len;have hv:v=.slice bb (hi'.ev m.env).toNat cap:=by rw[W9.zero b5,hlen];exact We ..
         have c1:0<=hi'.ev m.env:=b4.2.1;have c3:=b4.2.2.2;have hpo:Zt P m Y a w o (.vl (.one (.int .i64 hi'))):=by
          refine⟨.int .i64 (hi'.ev m.env),?_,b3,?_,rfl⟩
          ·simp only[execOp,ho,resolve,hcal];have:((hi'.ev m.env).toNat:Int)=hi'.ev m.env:=by omega
           simp[invoke,builtin,Builtin.len_,hct,run_underlying hu,hca,hv,goInt,this]
          ·simp only[has,lo,Sx.hi];omega
         exact Q7 h hpo rfl hK
       ·cases hp
        match hcl:c.args.toList.map a.eval,hvr with
        |[v],hvr =>
         have hca:c.args.map a.eval=#[v]:=Array.ext' (by simpa using hcl);obtain⟨b1,b2,b3,b4,b5,b6⟩:=(show C.rel m Y.nv Y.al (.slv id lo' hi' k') v from hvr.1)
         obtain⟨q1,q2,q5,q6,q3⟩:=h.Xav hrow;obtain⟨bb,cap,hlen⟩:=q3.len;have hv:∃b' c',v=.slice b' ((hi'.ev m.env).toNat-(lo'.ev m.env).toNat) c':=by
          rcases b5 with b5|⟨_,b7,ad,n,d,_,b8⟩
          ·rw[b5,hlen];exact⟨_,_,rfl⟩
          ·exact⟨_,_,by rw[b8,b7,Nat.sub_self]⟩
         obtain⟨b',c',hv⟩:=hv;have c0:0<=lo'.ev m.env:=b4.1;have c1:lo'.ev m.env<=hi'.ev m.env:=b4.2.1;have c3:=b4.2.2.2;have d0:m.env nn=hi'.ev m.env-lo'.ev m.env:=by
          have:=Zl.snd (i:=0) hd rfl;rw[Mk]at this;rw[this];simp only[D.ev,Qm];exact Qj7 (by simp only[has,lo,Sx.hi];omega)
         have hpo:Zt P m Y a w o (.vl (.one (.int .i64 (.v nn)))):=by
          refine⟨.int .i64 (m.env nn),?_,⟨?_,trivial⟩,?_,rfl⟩
          ·simp only[execOp,ho,resolve,hcal];have:(((hi'.ev m.env).toNat-(lo'.ev m.env).toNat:Nat):Int)=m.env nn:=by omega
           simp[invoke,builtin,Builtin.len_,hct,run_underlying hu,hca,hv,goInt,this]
          ·have:=hd.1;simp only[A.ok,Ov,O5]at *;omega
          ·show has .i64 (m.env nn);rw[d0];simp only[has,lo,Sx.hi];omega
         exact Q7 h hpo rfl hK
      ·cases hp
     ·rename_i n e v0 hu;split at hp
      ·rename_i hb;cases hp
       match hcl:c.args.toList.map a.eval,hvr with
       |[v],hvr =>
        have hca:c.args.map a.eval=#[v]:=Array.ext' (by simpa using hcl);refine key n ?_ rfl (by omega);rw[hca];simp[Builtin.len_,hct,run_underlying hu]
      ·cases hp
     ·rename_i s hu;split at hp
      ·rename_i hb;cases hp
       match hcl:c.args.toList.map a.eval,hvr with
       |[v],hvr =>
        have hca:c.args.map a.eval=#[v]:=Array.ext' (by simpa using hcl);refine key s.size ?_ rfl (by omega);have hv:v=.string s:=hvr.1;rw[hca,hv];simp[Builtin.len_,hct,run_underlying hu]
      ·cases hp
     ·cases hp
   ·
    rename_i hcal;have key:∀(id:Nat) (r:Row) (bb:Option Addr) (n cap:Nat) (v:Value),Y.row id=some r->r.full=true->(Builtin.cap_ c.argTypes o.type (c.args.map a.eval)).run P w=.ok (goInt cap) w->m.sv id=.slice bb n cap->p={val:=.vl (.one (.int .i64 (.v nn))),defs:=[(.int .i64,.llen r.x0)] }->o.wp P a w K Q:=by
     intro id r bb n cap v hrow hfull hrun hsv hpe;obtain⟨q1,q2,q5,q6,q3⟩:=h.Xav hrow;have q4:=q3.1.1;have hfl:=q3.2.2 hfull;have hlv:=q3.Xbh;rw[hsv]at hfl hlv;have hfl:n=cap:=hfl;have hlv:n=(dec (A.ev m.env r.x)).length:=hlv;subst hpe;have d0:m.env nn=(cap:Int):=by
      have:=Zl.snd (i:=0) hd rfl;rw[Mk]at this;rw[this];simp only[D.ev];omega
     have hpo:Zt P m Y a w o (.vl (.one (.int .i64 (.v nn)))):=by
      refine⟨.int .i64 cap,?_,⟨?_,trivial⟩,?_,?_⟩
      ·simp only[execOp,ho,resolve,hcal];simp[invoke,builtin,hrun,goInt]
      ·have:=hd.1;simp only[A.ok,Ov,O5]at *;omega
      ·show has .i64 (m.env nn);rw[d0];simp only[has,lo,hi];omega
      ·show _=Value.int .i64 (m.env nn);rw[d0]
     exact Q7 h hpo rfl hK
    split at hp
    ·cases hp
    ·rename_i t hct;split at hp
     ·rename_i e id hu;split at hp
      ·rename_i r hrow;split at hp
       ·rename_i hfull;cases hp
        match hcl:c.args.toList.map a.eval,hvr with
        |[v],hvr =>
         have hca:c.args.map a.eval=#[v]:=Array.ext' (by simpa using hcl);have hv:Y.al id=true/\v=m.sv id/\v.oneCell'=true:=hvr.1;obtain⟨q1,q2,q5,q6,q3⟩:=h.Xav hrow;obtain⟨bb,cap,hlen⟩:=q3.len;refine key id r bb _ cap v hrow hfull ?_ hlen rfl;simp[Builtin.cap_,hct,run_underlying hu,hca,hv.2.1,hlen]
       ·cases hp
      ·cases hp
     ·rename_i e id lo' hi' k' hu;split at hp
      ·rename_i r hrow;split at hp
       ·rename_i hfull;simp only[Oo]at hfull;have hz0:=Qdd hfull.2;subst hz0;cases hp
        match hcl:c.args.toList.map a.eval,hvr with
        |[v],hvr =>
         have hca:c.args.map a.eval=#[v]:=Array.ext' (by simpa using hcl);obtain⟨b1,b2,b3,b4,b5,b6⟩:=(show C.rel m Y.nv Y.al (.slv id (.lit 0) hi' k') v from hvr.1)
         obtain⟨q1,q2,q5,q6,q3⟩:=h.Xav hrow;obtain⟨bb,cap,hlen⟩:=q3.len;have hv:v=.slice bb (hi'.ev m.env).toNat cap:=by rw[W9.zero b5,hlen];exact We ..
         refine key id r bb _ cap v hrow hfull.1 ?_ hlen rfl;simp[Builtin.cap_,hct,run_underlying hu,hca,hv]
       ·cases hp
      ·cases hp
     ·cases hp
   ·
    rename_i hcal;split at hp
    ·rename_i k x k' y;split at hp
     ·rename_i hk;have hk:=Qau hk;subst hk;cases hp
      match hcl:c.args.toList.map a.eval,hvr with
      |[u,v],hvr =>
       have hca:c.args.map a.eval=#[u,v]:=Array.ext' (by simpa using hcl);have hx:C.rel m Y.nv Y.al (.int k x) u:=hvr.1;have hy:C.rel m Y.nv Y.al (.int k y) v:=hvr.2.1;have e0:m.env nn=Xo (decide (x.ev m.env<y.ev m.env)):=(hd.2 0 _ _ rfl).1;have e1:m.env (nn+1)=(if m.env nn=((1:Nat):Int)then y.ev m.env else x.ev m.env):=(hd.2 1 _ _ rfl).1;have e2:m.env (nn+1)=(if x.ev m.env<y.ev m.env then y.ev m.env else x.ev m.env):=by
        rw[e1,e0];by_cases hc:x.ev m.env<y.ev m.env <;> simp[hc,Xo]
       have hpo:Zt P m Y a w o (.vl (.one (.int k (.v (nn+1))))):=by
        refine⟨.int k (if x.ev m.env<y.ev m.env then y.ev m.env else x.ev m.env),?_,⟨?_,trivial⟩,?_,?_⟩
        ·simp only[execOp,ho,resolve,hcal];simp[invoke,builtin,Builtin.max_,Builtin.max2,hca,hx.2.2,hy.2.2]
        ·have:=hd.1;simp only[A.ok,Ov,O5]at *;omega
        ·show has k (m.env (nn+1));rw[e2];split
         ·exact hy.2.1
         ·exact hx.2.1
        ·show _=Value.int k (m.env (nn+1));rw[e2]
       exact Q7 h hpo rfl hK
     ·cases hp
    ·cases hp
   ·
    rename_i hcal;split at hp
    ·rename_i k x k' y;split at hp
     ·rename_i hk;have hk:=Qau hk;subst hk;cases hp
      match hcl:c.args.toList.map a.eval,hvr with
      |[u,v],hvr =>
       have hca:c.args.map a.eval=#[u,v]:=Array.ext' (by simpa using hcl);have hx:C.rel m Y.nv Y.al (.int k x) u:=hvr.1;have hy:C.rel m Y.nv Y.al (.int k y) v:=hvr.2.1;have e0:m.env nn=Xo (decide (y.ev m.env<x.ev m.env)):=(hd.2 0 _ _ rfl).1;have e1:m.env (nn+1)=(if m.env nn=((1:Nat):Int)then y.ev m.env else x.ev m.env):=(hd.2 1 _ _ rfl).1;have e2:m.env (nn+1)=(if y.ev m.env<x.ev m.env then y.ev m.env else x.ev m.env):=by
        rw[e1,e0];by_cases hc:y.ev m.env<x.ev m.env <;> simp[hc,Xo]
       have hpo:Zt P m Y a w o (.vl (.one (.int k (.v (nn+1))))):=by
        refine⟨.int k (if y.ev m.env<x.ev m.env then y.ev m.env else x.ev m.env),?_,⟨?_,trivial⟩,?_,?_⟩
        ·simp only[execOp,ho,resolve,hcal];simp[invoke,builtin,Builtin.min_,Builtin.min2,hca,hx.2.2,hy.2.2]
        ·have:=hd.1;simp only[A.ok,Ov,O5]at *;omega
        ·show has k (m.env (nn+1));rw[e2];split
         ·exact hy.2.1
         ·exact hx.2.1
        ·show _=Value.int k (m.env (nn+1));rw[e2]
       exact Q7 h hpo rfl hK
     ·cases hp
    ·cases hp
   ·
    split at hp
    ·rename_i g hg;cases hp;simp only[Qa3]at hK;exact Zf2 (T:=T) h (hn rfl) (by rw[ho];exact hg) ht (hz (.v (nn+(g.defs.length+1))) (by simp[Qd8])) (hz (.v (nn+(g.defs.length+3))) (by simp[Qd8])) ht2 (by simp only[Qd8,Qhm,O2,Ov,O5]at hle;omega) hK
    ·cases hp
   ·cases hp
   ·cases hp
   ·rename_i x hcal;split at hp
    ·rename_i f caps hx;have hfx:=h.cell hx;split at hp
     ·rename_i g X hfk;obtain⟨hg,hfn⟩:=Qtl hfk;split at hp
      ·cases hp
      split at hp
      ·cases hp
      ·rename_i d hdi;obtain⟨d1,d2⟩:=d;split at hp
       ·cases hp
       ·rename_i q hqo;obtain⟨q1,q2,q3⟩:=q;cases hp;simp only at ht ht2 hle hr hK hn;have hall:Zi m Y.nv Y.al (args++caps.map fun p=>V.one (.ptr p.1 p.2)) (c.args.toList.map a.eval++caps.map fun p=>Value.pointer (some (m.at p.1 p.2))):=by
         exact hvr.append (Bn hfx.1)
        have hins:=(Qav (T:=T) _ _ _ _ _ hdi h hall).2 m.env (fun _ _=>rfl) ht;have hpre:X.pre (d2.map (·.ev m.env)):=by
         have:=hr (g,d2) (Me.2 rfl);simpa[hg]using this
        have hok:=hT g X hg w h.below _ _ hins hpre;have hrun:(execOp a.eval o).run P w=(callFunc X.fn (c.args.toList.map a.eval++caps.map fun p=>Value.pointer (some (m.at p.1 p.2))).toArray).run P w:=by
         rw[Qco ho hcal hfx.2,hfn];congr 2;apply Array.ext';simp
        have Jd:∀(us:List Value) (w':World),Wv w.heap.size w' X.outs (X.sem (d2.map (·.ev m.env))) us->Below w.heap.size w w'->K (a.put o.dst (Qho us)) w':=by
         intro us w' hout hbel;obtain⟨b,vb,hb1,hb2⟩:=Zgx (T:=T) (args:=d2) (nid:=nid) hg (m:=m) (nv:=Y.nv) (al:=Y.al) hqo _ us hout (fun i y hi=>by rw[M5,Ou,hi];rfl) ht2 (by omega);cases q3 with
         |none =>
          have hv:=hb2 m Y.al (MExt.refl _ _ _) (fun _ h=>by cases h);have hw:=h.world hbel;have eq:Qaj Y {val:=Qc3 q2,defs:=d1,eff:=.none,reqs:=[(g,d2)],post:=q1 } nid o.dst=Y.put o.dst (Qc3 q2):=rfl;have hal:(Y.put o.dst (Qc3 q2)).al=Y.al:=by cases o.dst <;> rfl
          refine hK m _ _ rfl ?_ ?_
          ·rw[eq,hal];exact MExt.refl _ _ _
          ·rw[eq];exact hw.put (Qoe hv) _
         |some bx =>
          have hnid:=hn rfl;have hnl:nid<Y.boxes.length:=(Ow.1 hnid).1;have eq:Qaj Y {val:=Qc3 q2,defs:=d1,eff:=.new bx,reqs:=[(g,d2)],post:=q1 } nid o.dst=(Y.Xas nid bx).put o.dst (Qc3 q2):=by rw[Qa3];rfl
          have hal:((Y.Xas nid bx).put o.dst (Qc3 q2)).al=(Y.Xas nid bx).al:=by cases o.dst <;> rfl
          have haln:(Y.Xas nid bx).al nid=true:=by rw[Zv];simp[hnl]
          have go:∀m',m'.env=m.env->Rep w0 m' (Y.Xas nid bx) a w'->MExt m Y.nv Y.al m' Y.nv (Y.Xas nid bx).al->(bx.own=true->m'.rho nid=(b,0))->(bx.own=false->m'.sv nid=vb)->K (a.put o.dst (Qho us)) w':=by
           intro m' he r1 r2 k1 k2;have hv:=hb2 _ _ r2 (fun bx' hbx=>by cases hbx;exact⟨haln,k1,k2⟩);refine hK m' _ _ he ?_ ?_
           ·show MExt m Y.nv Y.al m' Y.nv (Qaj Y {val:=Qc3 q2,defs:=d1,eff:=.new bx,reqs:=[(g,d2)],post:=q1 } nid o.dst).al;rw[eq];exact r2.trans (by rw[<- hal];exact MExt.refl _ _ _)
           ·show Rep w0 m' (Qaj Y {val:=Qc3 q2,defs:=d1,eff:=.new bx,reqs:=[(g,d2)],post:=q1 } nid o.dst) _ _;rw[eq];exact r1.put (Qoe hv) _
          rcases hb1 bx rfl with⟨o1,o2,g1,zs,g2,g3⟩|⟨r,rfl,o1,o2,o3,o4,o5,o6⟩
          ·obtain⟨bcells,belem,bown,brow,bfz⟩:=bx;simp only at o1 o2 g2 g3;obtain⟨o2,o3⟩:=o2;subst o1 o2 o3;obtain⟨r1,r2⟩:=h.new hnid hbel g1 g2 g3;exact go (m.bind nid b) rfl r1 r2 (fun _=>by simp[M.bind]) (fun h=>by cases h)
          ·have o5':w'.ownsRow w0.heap.size r.elem r.k.sz vb (dec (r.x.ev m.env)).length (flat r.k (dec (r.x.ev m.env))):=by
            refine⟨o5.1,?_⟩;rcases o5.2 with h1|⟨g,cap,cur,e1,e2,e3⟩
            ·exact .inl h1
            ·exact .inr ⟨g,cap,cur,e1,Nat.le_trans h.below.size e2,e3⟩
           obtain⟨r1,r2⟩:=h.newRow hnid hbel (r:=r) (v:=vb) o2 (by rw[o3];exact o2) (by rw[o3]) ⟨o4,by rw[o1];exact o5',o6⟩ (fun g _ hg=>(o5.lt g hg).1);exact go (m.row nid vb) rfl r1 r2 (fun h=>by cases h) (fun _=>by simp[M.row])
        unfold Oper.wp;rw[hrun];cases hext:X.ext with
        |true =>
         rw[hext]at hok;simp only[if_true]at hok;obtain⟨us,h1,h2⟩:=hok;rw[h1];exact Jd us w h2 (Below.refl _ _)
        |false =>
         rw[hext]at hok;simp only[K5,if_false]at hok;obtain⟨h1,h2⟩:=hok;rw[h1];refine h2.mono fun e w' ⟨us,he,hout,hbel⟩=>?_
         subst he;exact Jd us w' hout hbel
     ·cases hp
    ·cases hp
 |_=>rw[ho]at hp;simp[Qy]at hp
end
section
variable {P:Program}{T:List K}{w0:World}{m:M}{Y:St}{a:Act}{w:World}{o:Oper}{nn nid:Nat}{p:Plan}
theorem Qn6(T:List K)(e:Nat->Int)(a:A):KK.bit.has ((D.not a).ev T e):=by
 by_cases h:a.ev e=0 <;> simp[KK.has,D.ev,h]
theorem Jq{kk:KK}{d:D}{c:A->C}(hp:Bj nn kk d c=.ok p)(h1:d.ok nn)(h2:kk.has (d.ev T m.env)):Zf T m.env nn p.defs:=by
 unfold Bj at hp;cases hp;exact Zgg h1 h2
theorem Zou{f:List C->List C->Option (List (A×A)×List C×List C)}{R:C->Prop}{S:A×A->Prop}(hf:∀xs ys ps xs' ys',f xs ys=some (ps,xs',ys')->(∀c∈xs,R c)->(∀c∈ys,R c)->(∀q∈ps,S q)/\(∀c∈xs',R c)/\(∀c∈ys',R c)) :
  ∀n xs ys ps xs' ys',eqN f n xs ys=some (ps,xs',ys')->(∀c∈xs,R c)->(∀c∈ys,R c)->(∀q∈ps,S q)/\(∀c∈xs',R c)/\(∀c∈ys',R c):=by
 intro n
 induction n with
 |zero=>intro xs ys ps xs' ys' h hx hy;simp[eqN]at h;obtain⟨rfl,rfl,rfl⟩:=h;exact⟨by simp,hx,hy⟩
 |succ n ih =>
  intro xs ys ps xs' ys' h hx hy;unfold eqN at h;split at h
  ·cases h
  ·rename_i r hr;obtain⟨p1,x1,y1⟩:=r;simp only at h;split at h
   ·cases h
   ·rename_i q hq;obtain⟨p2,x2,y2⟩:=q;simp at h;obtain⟨rfl,rfl,rfl⟩:=h;obtain⟨g1,g2,g3⟩:=hf _ _ _ _ _ hr hx hy;obtain⟨k1,k2,k3⟩:=ih _ _ _ _ _ hq g2 g3;exact⟨fun q hq=>(L5.1 hq).elim (g1 q) (k1 q),k2,k3⟩
theorem Zf6{f:TypeId->List C->List C->Option (List (A×A)×List C×List C)}{sz:TypeId->Option Nat}{R:C->Prop}{S:A×A->Prop}(hf:∀t xs ys ps xs' ys',f t xs ys=some (ps,xs',ys')->(∀c∈xs,R c)->(∀c∈ys,R c)->(∀q∈ps,S q)/\(∀c∈xs',R c)/\(∀c∈ys',R c)) :
  ∀fs n xs ys ps n' xs' ys',Qry f sz fs n xs ys=some (ps,n',xs',ys')->(∀c∈xs,R c)->(∀c∈ys,R c)->(∀q∈ps,S q)/\(∀c∈xs',R c)/\(∀c∈ys',R c):=by
 intro fs
 induction fs with
 |nil=>intro n xs ys ps n' xs' ys' h hx hy;simp[Qry]at h;obtain⟨rfl,rfl,rfl,rfl⟩:=h;exact⟨by simp,hx,hy⟩
 |cons fd fs ih =>
  intro n xs ys ps n' xs' ys' h hx hy;unfold Qry at h;split at h
  ·cases h
  ·split at h
   ·rename_i r s hr hs;obtain⟨p1,x1,y1⟩:=r;simp only at h;split at h
    ·cases h
    ·rename_i q hq;obtain⟨p2,n2,x2,y2⟩:=q;simp at h;obtain⟨rfl,rfl,rfl,rfl⟩:=h;obtain⟨g1,g2,g3⟩:=hf _ _ _ _ _ _ hr hx hy;obtain⟨k1,k2,k3⟩:=ih _ _ _ _ _ _ _ hq g2 g3;exact⟨fun q hq=>(L5.1 hq).elim (g1 q) (k1 q),k2,k3⟩
   ·cases h
def C.okA(n:Nat):C->Prop
 |.int _ a=>a.ok n
 |.bool a=>a.ok n
 |_=>True
theorem Zbd{n:Nat}:∀d t xs ys ps xs' ys',eqW P d t xs ys=some (ps,xs',ys')->(∀c∈xs,C.okA n c)->(∀c∈ys,C.okA n c)->(∀q∈ps,q.1.ok n/\q.2.ok n)/\(∀c∈xs',C.okA n c)/\(∀c∈ys',C.okA n c):=by
 intro d
 induction d with
 |zero=>intro t xs ys ps xs' ys' h;simp[eqW]at h
 |succ d ih =>
  intro t xs ys ps xs' ys' h hx hy;unfold eqW at h;split at h
  ·split at h
   ·split at h
    ·simp at h;obtain⟨rfl,rfl,rfl⟩:=h;simp only[Mh,forall_eq_or_imp]at hx hy;exact⟨by simpa using⟨hx.1,hy.1⟩,hx.2,hy.2⟩
    ·cases h
   ·cases h
  ·split at h
   ·split at h
    ·simp at h;obtain⟨rfl,rfl,rfl⟩:=h;simp only[Mh,forall_eq_or_imp]at hx hy;exact⟨by simpa using⟨hx.1,hy.1⟩,hx.2,hy.2⟩
    ·cases h
   ·cases h
  ·split at h
   ·exact Zou (fun xs ys ps xs' ys'=>ih _ xs ys ps xs' ys') _ _ _ _ _ _ h hx hy
   ·cases h
  ·split at h
   ·cases h
   ·split at h
    ·rename_i r hr;obtain⟨r1,r2,r3,r4⟩:=r;split at h
     ·simp at h;obtain⟨rfl,rfl,rfl⟩:=h;exact Zf6 (fun t xs ys ps xs' ys'=>ih t xs ys ps xs' ys') _ _ _ _ _ _ _ _ hr hx hy
     ·cases h
    ·cases h
  ·cases h
theorem Rels.okA{m:M}{nv:Nat}{al:Nat->Bool}:∀ {cs:List C} {vs:List Value},Rels m nv al cs vs->∀c∈cs,C.okA nv c
 |[],[],_,c,hc=>by cases hc
 |c::cs,v::vs,h,d,hd=>by
  rcases Mh.1 hd with rfl|hd
  ·cases d <;> first|trivial|exact h.1.1.1
  ·exact Rels.okA h.2 d hd
theorem Qkl{m:M}{nv:Nat}{al:Nat->Bool}{k:IntKind}:∀ {as:List A} {vs:List Value},Rels m nv al (as.map (.int k)) vs->∀x∈as,x.ok nv/\has k (x.ev m.env)
 |[],[],_,x,hx=>by cases hx
 |y::as,v::vs,h,x,hx=>by
  rcases Mh.1 hx with rfl|hx
  ·exact⟨h.1.1.1,h.1.2.1⟩
  ·exact Qkl h.2 x hx
theorem Qi1{m:M}{nv nn:Nat}{al:Nat->Bool}{k:IntKind}{as:List A}{vs:List Value}(h:Rels m nv al (as.map (.int k)) vs)(hn:nv<=nn):∀x∈as,x.ok nn:=fun x hx=>A.Xar (Qkl h x hx).1 hn
theorem Qsy{m:M}{nv:Nat}{al:Nat->Bool}{k:IntKind}{as:List A}{vs:List Value}(h:Rels m nv al (as.map (.int k)) vs):∀x∈as,has k (x.ev m.env):=fun x hx=>(Qkl h x hx).2
theorem Xba(k:IntKind):has k 0:=by cases k <;> simp only[has,lo,hi] <;> omega
theorem Zoj{m:M}{nv:Nat}{al:Nat->Bool}{k:IntKind}{as:List A}{vs:List Value}(h:Rels m nv al (as.map (.int k)) vs)(i:A):KK.has (.int k) ((D.sel i as).ev T m.env):=by
 simp only[KK.has,D.ev,Ou,M2];cases hq:as[(i.ev m.env).toNat]? with
 |none=>exact Xba k
 |some z=>exact Qsy h z (Mu hq)
theorem Qjj{m:M}{nv nn:Nat}{al:Nat->Bool}{k:IntKind}{as:List A}{vs:List Value}(h:Rels m nv al (as.map (.int k)) vs){i:A}(hi:i.ok nn)(hn:nv<=nn):(Qob k i as).ok nn/\KK.has (.int k) ((Qob k i as).ev T m.env):=by
 unfold Qob;cases hu:Qt2 k as with
 |none=>exact⟨⟨hi,Qi1 h hn⟩,Zoj h _⟩
 |some n =>
  obtain⟨h1,h2,h3⟩:=Qyh hu h;refine⟨⟨by show n<nn;omega,hi⟩,?_⟩;show has k ((dec (m.env n)).getD (i.ev m.env).toNat 0);rw[Ou];cases hq:(dec (m.env n))[(i.ev m.env).toNat]? with
  |none=>exact Xba k
  |some z=>exact h2 z (Mu hq)
theorem Qx8{e:Nat->Int}{k:IntKind}{i x:A}{nn0:Nat}(hi:i.ok nn0)(hx:x.ok nn0)(hxk:has k (x.ev e)):∀(as:List A) (j nn:Nat),(∀y∈as,y.ok nn0/\has k (y.ev e))->∀e':Nat->Int,(∀q,q<nn0->e' q=e q)->(hn:nn0<=nn:=by omega)->Zf T e' nn (Qcz k i x as j)
 |[],_,_,_,_,_,_=>trivial
 |y::as,j,nn,hy,e',he,hn=>by
  obtain⟨y1,y2⟩:=hy y (Mr ..);refine⟨⟨A.Xar hi hn,A.Xar hx hn,A.Xar y1 hn⟩,?_,Qx8 hi hx hxk as (j+1) (nn+1) (fun z hz=>hy z (Mq _ hz)) _ (fun q hq=>?_) (by omega)⟩
  ·simp only[KK.has,D.ev];split
   ·rw[A.Xaq hx he];exact hxk
   ·rw[A.Xaq y1 he];exact y2
  ·simp only[upd];rw[if_neg (by omega)];exact he q hq
theorem Qce{e:Nat->Int}{nn len:Nat}{y:A}{ds:Defs}(hy:y.ok nn)(hd:∀e':Nat->Int,(∀q,q<nn->e' q=e q)->Zf T e' (nn+2) ds):Zf T e nn (Jj y len++ds):=by
 refine⟨⟨trivial,hy⟩,Q2 _,⟨A.Xar hy (by omega),trivial⟩,Q2 _,hd _ fun q hq=>?_⟩;simp only[upd];rw[if_neg (by omega),if_neg (by omega)]
theorem Zar:∀(ls:List LL) (e:Nat->Int) (n j z:Nat),z<n->Qn2 ls ((dec (e z)).drop j)->Zf T e n (Qep (.v z) j ls)
 |[],_,_,_,_,_,_=>trivial
 |l::ls,e,n,j,z,hz,h=>by
  cases hd:(dec (e z)).drop j with
  |nil=>rw[hd]at h;exact h.elim
  |cons x xs =>
   rw[hd]at h;have e1:(dec (e z)).getD ((j:Nat):Int).toNat 0=x:=by
    rw[Mi,Ou,<- List.head?_drop,hd];rfl
   have e2:(dec (e z)).drop (j+1)=xs:=by rw[<- List.tail_drop,hd];rfl
   refine⟨⟨hz,trivial⟩,?_,Zar ls _ (n+1) (j+1) z (by omega) ?_⟩
   ·show l.kk.has ((dec (e z)).getD ((j:Nat):Int).toNat 0);rw[e1];cases l <;> exact h.1
   ·simp only[upd];rw[if_neg (by omega),e2];exact h.2
theorem Zbs{e:Nat->Int}{op:BinOp}{k:IntKind}{a b:A}{nn:Nat}(wa:a.ok nn)(wb:b.ok nn)(hh:(KK.int k).has (Qm op k (a.ev e) (b.ev e))):Zf T e nn [(.bit,.cmp .leq (.lit 0) b),(.int k,.bin op k a b)]:=by
 refine⟨⟨trivial,wb⟩,Q2 _,⟨A.Xar wa (by omega),A.Xar wb (by omega)⟩,?_,trivial⟩;rw[D.Xaq (d:=.bin op k a b) (n:=nn) (e:=e) ⟨wa,wb⟩ fun i hi=>by simp[upd];omega];exact hh
theorem Qro(h:Rep w0 m Y a w){id:Nat}{r:Row}(hr:Y.row id=some r)(hnn:Y.nv<=nn):Zf T m.env nn [(.int .i64,.llen r.x0)]:=by
 obtain⟨q1,q2,q5,q6,q3⟩:=h.Xav hr;have q4:=q3.1.1;refine⟨A.Xar q5.1 hnn,?_,trivial⟩;simp only[KK.has,D.ev,q6,has,lo,hi];omega
theorem Zjg{id:Nat}{lo hi:A}{k:LK}{vs:List Value}(hvr:Zi m Y.nv Y.al [.one (.slv id lo hi k)] vs)(hnn:Y.nv<=nn):Zf T m.env nn [(.int .i64,.bin .sub .i64 hi lo)]:=by
 match vs,hvr with
 |[u],hvr =>
  obtain⟨b1,b2,b3,b4,b5,b6⟩:=(show C.rel m Y.nv Y.al (.slv id lo hi k) u from hvr.1)
  exact⟨⟨A.Xar b3.1 hnn,A.Xar b2.1 hnn⟩,W7 _ _,trivial⟩
theorem Zc4{z:A}{vs:List Value}(hvr:Zi m Y.nv Y.al [.one (.ll z)] vs)(hnn:Y.nv<=nn):Zf T m.env nn [(.int .i64,.llen z)]:=by
 match vs,hvr with
 |[u],hvr =>
  obtain⟨b1,b2,b3⟩:=(show C.rel m Y.nv Y.al (.ll z) u from hvr.1)
  have:=b2.1.1;refine⟨A.Xar b1.1 hnn,?_,trivial⟩;simp only[KK.has,D.ev,has,lo,hi];omega
theorem Qvf{z:A}{vs:List Value}(hvr:Zi m Y.nv Y.al [.one (.rol z)] vs)(hnn:Y.nv<=nn):Zf T m.env nn [(.int .i64,.llen z)]:=by
 match vs,hvr with
 |[u],hvr =>
  obtain⟨b1,b2,b3⟩:=(show C.rel m Y.nv Y.al (.rol z) u from hvr.1)
  have:=b2.1;refine⟨A.Xar b1.1 hnn,?_,trivial⟩;simp only[KK.has,D.ev,has,lo,hi];omega
theorem Qr9{e:Nat->Int}{k:IntKind}{x y:A}{d:D}(hx:x.ok nn)(hy:y.ok nn)(hxk:has k (x.ev e))(hyk:has k (y.ev e))(hd:d.ok nn)(hb:KK.bit.has (d.ev T e)):Zf T e nn [(.bit,d),(.int k,.put (.v nn) 1 y x)]:=by
 have key:∀v:Int,(KK.int k).has ((D.put (.v nn) 1 y x).ev T (upd e nn v)):=by
  intro v;have low:∀i,i<nn->upd e nn v i=e i:=fun i hi=>by simp[upd];omega
  simp only[KK.has,D.ev];rw[A.Xaq hx low,A.Xaq hy low];split
  ·exact hyk
  ·exact hxk
 exact⟨hd,hb,⟨Hn _,A.Xar hy (by omega),A.Xar hx (by omega)⟩,key _,trivial⟩
theorem Zl7(_h:Rep w0 m Y a w){k k':IntKind}{x y:A}{vs:List Value}(hvr:Zi m Y.nv Y.al [.one (.int k x),.one (.int k' y)] vs)(hnn:Y.nv<=nn)(hk:(k==k')=true:=by assumption):Zf T m.env nn [(.bit,.cmp .lss x y),(.int k,.put (.v nn) 1 y x)]:=by
 have hk:=Qau hk;subst hk
 match vs,hvr with
 |[u,v],hvr =>
  have hx:C.rel m Y.nv Y.al (.int k x) u:=hvr.1;have hy:C.rel m Y.nv Y.al (.int k y) v:=hvr.2.1;exact Qr9 (A.Xar hx.1.1 hnn) (A.Xar hy.1.1 hnn) hx.2.1 hy.2.1 ⟨A.Xar hx.1.1 hnn,A.Xar hy.1.1 hnn⟩ (Q2 _)
theorem Zi6(_h:Rep w0 m Y a w){k k':IntKind}{x y:A}{vs:List Value}(hvr:Zi m Y.nv Y.al [.one (.int k x),.one (.int k' y)] vs)(hnn:Y.nv<=nn)(hk:(k==k')=true:=by assumption):Zf T m.env nn [(.bit,.cmp .lss y x),(.int k,.put (.v nn) 1 y x)]:=by
 have hk:=Qau hk;subst hk
 match vs,hvr with
 |[u,v],hvr =>
  have hx:C.rel m Y.nv Y.al (.int k x) u:=hvr.1;have hy:C.rel m Y.nv Y.al (.int k y) v:=hvr.2.1;exact Qr9 (A.Xar hx.1.1 hnn) (A.Xar hy.1.1 hnn) hx.2.1 hy.2.1 ⟨A.Xar hy.1.1 hnn,A.Xar hx.1.1 hnn⟩ (Q2 _)
theorem Qo8(h:Rep w0 m Y a w){o:Option Operand}{l:Option A}(hl:Jf Y o=some l):∀y,l=some y->y.ok Y.nv:=by
 intro y hy;unfold Jf at hl;split at hl
 ·split at hl
  ·rename_i hc;cases hl;cases hy;exact(h.cell hc).1.1
  ·cases hl
 ·cases hl;cases hy
theorem Qsz(h:Rep w0 m Y a w){id:Nat}{r:Row}(hr:Y.row id=some r){lo hi:Option Operand}{l h':Option A}(hl:Jf Y lo=some l)(hh:Jf Y hi=some h'){d:A}(hd:∀z,d.ok (nn+(z+1)))
  (hp:Ut nn id r (l.getD (.lit 0)) (h'.getD d)=.ok p) (hnn:Y.nv<=nn):Zf T m.env nn p.defs:=by
 unfold Ut at hp;cases hp;obtain⟨q1,q2,q5,q6,q3⟩:=h.Xav hr;have q4:=q3.1.1;have wl:∀z,(l.getD (.lit 0)).ok (nn+z):=fun z=>by
  cases l with
  |none=>exact trivial
  |some y=>exact A.Xar (Qo8 h hl y rfl) (by omega)
 have wh:∀z,(h'.getD d).ok (nn+(z+1)):=fun z=>by
  cases h' with
  |none=>exact hd z
  |some y=>exact A.Xar (Qo8 h hh y rfl) (by omega)
 refine⟨A.Xar q5.1 hnn,?_,⟨trivial,wl 1⟩,Q2 _,⟨wl 2,wh 1⟩,Q2 _,⟨wh 2,?_⟩,Q2 _,trivial⟩
 ·simp only[KK.has,D.ev,q6,has,Sx.lo,Sx.hi];omega
 ·show nn<nn+1+1+1;omega
theorem Zhg(h:Rep w0 m Y a w){id:Nat}{r:Row}(hr:Y.row id=some r){lo hi:Option Operand}{l h':Option A}(hl:Jf Y lo=some l)(hh:Jf Y hi=some h'){lo' hi':A}(w2:lo'.ok Y.nv)(w3:hi'.ok Y.nv)
  (hp:Qa4 nn id r lo' hi' (l.getD (.lit 0)) h'=.ok p) (hnn:Y.nv<=nn):Zf T m.env nn p.defs:=by
 unfold Qa4 at hp;cases hp;obtain⟨q1,q2,q5,q6,q3⟩:=h.Xav hr;have q4:=q3.1.1;have wl:∀z,(l.getD (.lit 0)).ok (nn+z):=fun z=>by
  cases l with
  |none=>exact trivial
  |some y=>exact A.Xar (Qo8 h hl y rfl) (by omega)
 have wh:∀z,(h'.getD (.v (nn+2))).ok (nn+(z+3)):=fun z=>by
  cases h' with
  |none=>show nn+2<nn+(z+3);omega
  |some y=>exact A.Xar (Qo8 h hh y rfl) (by omega)
 refine⟨A.Xar q5.1 hnn,?_,⟨by show nn<nn+1;omega,A.Xar w2 (by omega)⟩,W7 _ _,⟨A.Xar w3 (by omega),A.Xar w2 (by omega)⟩,W7 _ _,⟨trivial,wl 3⟩,Q2 _,⟨wl 4,wh 1⟩,Q2 _,⟨wh 2,by show nn+1<nn+1+1+1+1+1;omega⟩,Q2 _,⟨A.Xar w2 (by omega),wl 6⟩,W7 _ _,⟨A.Xar w2 (by omega),wh 4⟩,W7 _ _,trivial⟩;simp only[KK.has,D.ev,q6,has,Sx.lo,Sx.hi];omega
theorem Qt3(h:Rep w0 m Y a w)(hp:Qy P T Y nn nid o.op=.ok p)(hnn:Y.nv<=nn):Zf T m.env nn p.defs:=by
  have nodefs:p.defs=[]->Zf T m.env nn p.defs:=fun e=>by rw[e];trivial
  cases ho:o.op with
  | binOp op t x y yt =>
    rw[ho]at hp;simp only[Qy]at hp;split at hp
    · rename_i u v hu hv
      have h1:=h.v_ hu;have h2:=h.v_ hv;split at hp
      · rename_i q hq
        cases hp;obtain⟨id,r,e,n,rfl,rfl,hr,hut,hn,rfl⟩:=Yh hq;obtain⟨q1,q2,q5,q6,q3⟩:=h.Xav hr;have q4:=q3.1.1;exact⟨A.Xar q5.1 hnn,by simp only[KK.has,D.ev,q6,has,lo,hi];omega,⟨trivial,show nn<nn+1 by omega⟩,Q2 _,trivial⟩
      rename_i hnone;clear hnone;unfold Jm at hp;split at hp
      · rename_i k a k' b
        have w1:a.ok nn/\b.ok nn:=⟨A.Xar h1.1.1 hnn,A.Xar h2.1.1 hnn⟩
        have hb:∀op b',(KK.int k).has (Qm op k (a.ev m.env) b'):=fun op b'=>Qko h1.2.1
        have hc:∀b,KK.bit.has (Xo b):=Q2;unfold U0 at hp;split at hp;all_goals (repeat' split at hp)
        all_goals first
          |(cases hp;done)
          |exact Jq hp w1 (by simp only[D.ev];exact hb _ _)
          |exact Jq hp w1 (by simp only[D.ev];exact hc _)
          |(cases hp;exact Zbs w1.1 w1.2 (hb _ _))
          |(cases hp;exact Zgg w1 (by simp only[D.ev];exact hb _ _))
      · rename_i a b
        have w1:a.ok nn/\b.ok nn:=⟨A.Xar h1.1.1 hnn,A.Xar h2.1.1 hnn⟩
        split at hp
        · exact Jq hp w1 (Q2 _)
        · exact Jq hp w1 (Q2 _)
        · cases hp
      · rename_i a b
        have w1:a.ok nn/\b.ok nn:=⟨A.Xar h1.1.1 hnn,A.Xar h2.1.1 hnn⟩
        split at hp
        · exact Jq hp w1 (Q2 _)
        · cases hp
          exact⟨w1,Q2 _,Hn nn,Qn6 _ _ _,trivial⟩
        · cases hp
      · split at hp
        · cases hp;trivial
        · cases hp;trivial
        · cases hp
      · obtain ⟨vx,hx1,hx2⟩:=h1
        obtain⟨vy,hy1,hy2⟩:=h2;split at hp
        · cases hp
        · split at hp
          · rename_i l hl
            have hok:∀q∈l,q.1.ok nn/\q.2.ok nn:=fun q hq=>by
              have:=(Zbd 20 t _ _ _ _ _ hl (Rels.okA hx2) (Rels.okA hy2)).1 q hq;exact⟨A.Xar this.1 hnn,A.Xar this.2 hnn⟩
            split at hp
            · exact Jq hp hok (Q2 _)
            · split at hp
              · cases hp;trivial
              · cases hp
                exact⟨hok,Q2 _,Hn nn,Qn6 _ _ _,trivial⟩
            · cases hp
          · cases hp
      · repeat' split at hp
        all_goals (first|(cases hp;done)|(unfold Vj at hp;cases hp;trivial))
      · cases hp
    · cases hp
  | unOp op t x =>
    rw[ho]at hp;simp only[Qy]at hp;split at hp
    · rename_i hx
      have h1:=h.cell hx;exact Jq hp (A.Xar h1.1.1 hnn) (Qn6 _ _ _)
    · rename_i hx
      have h1:=h.cell hx;exact Jq hp ⟨trivial,A.Xar h1.1.1 hnn⟩ (W7 _ _)
    · rename_i hx
      have h1:=h.cell hx;exact Jq hp ⟨trivial,A.Xar h1.1.1 hnn⟩ (W7 _ _)
    · cases hp
  | convert s d x =>
    rw[ho]at hp;simp only[Qy]at hp;split at hp
    · rename_i q hq
      cases hp;obtain⟨_,_,_,_,_,_,_,_,_,_,_,_,_,rfl⟩:=W6 hq;trivial
    split at hp
    · rename_i hx
      have h1:=h.cell hx;split at hp
      · unfold Vj at hp;cases hp;trivial
      · exact Jq hp (A.Xar h1.1.1 hnn) (W7 _ _)
    · rename_i e c hs hu hx
      have h1:=h.cell hx;split at hp
      · rename_i ds y he htk
        cases hp;exact((Vg (T:=T) htk h (u:=a.eval x) h1).1 hnn).1
      · cases hp
    · cases hp
  | call c =>
    rw[ho]at hp;simp only[Qy]at hp;split at hp
    · cases hp
    · rename_i args hargs
      have hvr:=Qe2 h _ _ hargs;split at hp
      · repeat' split at hp
        all_goals first
          |(cases hp;done)
          |(unfold Vj at hp;cases hp;trivial)
          | (rename_i r hr
             cases hp;exact Qro h hr hnn)
          | (cases hp
             exact Zjg hvr hnn)
          | (cases hp
             exact Zc4 hvr hnn)
          | (cases hp
             exact Qvf hvr hnn)
      · repeat' split at hp
        all_goals first
          |(cases hp;done)
          | (rename_i r hr hf
             cases hp;exact Qro h hr hnn)
      · split at hp
        · split at hp
          · cases hp
            exact Zl7 h hvr hnn
          · cases hp
        · cases hp
      · split at hp
        · split at hp
          · cases hp
            exact Zi6 h hvr hnn
          · cases hp
        · cases hp
      · split at hp
        · rename_i g hg
          cases hp;exact Zl2 h (by rw[ho];exact hg) hnn
        · cases hp
      · cases hp
      · cases hp
      · split at hp
        · rename_i f caps hx
          have hfx:=h.cell hx;split at hp
          · split at hp
            · cases hp
            split at hp
            · cases hp
            · rename_i d hdi
              split at hp
              · cases hp
              · cases hp
                have hall:Zi m Y.nv Y.al (args++caps.map fun p=>V.one (.ptr p.1 p.2)) (c.args.toList.map a.eval++caps.map fun p=>Value.pointer (some (m.at p.1 p.2))):=by
                  exact hvr.append (Bn hfx.1)
                exact((Qav (T:=T) _ _ _ _ _ hdi h hall).1 hnn).1
          · cases hp
        · cases hp
  | load t x =>
    rw[ho]at hp;simp only[Qy]at hp;split at hp
    · repeat' split at hp
      all_goals (first|(cases hp;done)|(unfold Vj at hp;cases hp;trivial)|(cases hp;trivial))
    · rename_i id off i n hx
      have h1:=h.cell hx;split at hp
      · rename_i b d hb hdt
        split at hp
        · cases hp
        · split at hp
          · rename_i r hr
            split at hp
            · rename_i hl
              cases hp;have hcs:=Ug hr;have hl':r.2.length=n:=by simpa using hl
              have hen:n<=(b.cells.drop off).length:=by
                have:=congrArg List.length hcs;rw[O8,hl',O6]at this;omega
              obtain⟨vs,hvl,hrel,hv⟩:=h.reads hb off n hen;rw[hcs]at hrel;obtain⟨g1,g2⟩:=Qjj (T:=T) hrel (i:=i) (A.Xar h1.2.1.1 hnn) hnn;exact⟨g1,g2,trivial⟩
            · cases hp
          · cases hp
      · cases hp
    · rename_i id i k hx
      have h1:=h.cell hx;split at hp
      · rename_i r d n hr hdt hn
        split at hp
        · rename_i hc
          have e2:=Zx hc;subst e2;obtain⟨q1,q2,_,_,q3⟩:=h.Xav hr;have hi:(i.ev m.env).toNat<(dec (A.ev m.env r.x)).length:=by have:=h1.2.2.1;rw[q3.Xbh]at this;omega
          have hz:r.k.has ((dec (A.ev m.env r.x)).getD (i.ev m.env).toNat 0):=by
            refine q3.1.2 _ ?_;rw[Ou,O1 hi];exact Kk hi
          have wok:(D.lget r.x i).ok nn:=⟨A.Xar q2.1 hnn,A.Xar h1.2.1.1 hnn⟩
          unfold Ji at hp;split at hp
          · rename_i hk
            rw[hk]at hz;split at hp
            · cases hp;exact⟨wok,hz,trivial⟩
            · cases hp
          · rename_i kk hk
            rw[hk]at hz;split at hp
            · cases hp
            · cases hp;exact⟨wok,hz,trivial⟩
          · rename_i l0 ls hk
            rw[hk]at hz;split at hp
            · cases hp
              refine⟨wok,trivial,Zar (l0::ls) _ (nn+1) 0 nn (by omega) ?_⟩;simp only[upd,if_true,K3];exact hz
            · cases hp
          · cases hp
        · cases hp
      · cases hp
    · rename_i x i hx
      obtain⟨g1,g2,g3,s,g4,g5⟩:=(show C.rel m Y.nv Y.al (.llp x i) _ from h.cell hx)
      split at hp
      · cases hp
        have hi:(i.ev m.env).toNat<(dec (A.ev m.env x)).length:=by omega
        refine⟨⟨A.Xar g1.1 hnn,A.Xar g2.1 hnn⟩,?_,trivial⟩;simp only[KK.has,D.ev];rw[Ou,O1 hi,Kh];exact g4.1.2 _ (Kk hi)
      · cases hp
    · cases hp
  | store t x y =>
    rw[ho]at hp;simp only[Qy]at hp;split at hp
    · repeat' split at hp
      all_goals (first|(cases hp;done)|(unfold Vj at hp;cases hp;trivial)|(cases hp;trivial))
    · rename_i id off i n k x' hx hy
      have h1:=h.cell hx;have h2:C.rel m Y.nv Y.al (.int k x') (a.eval y):=h.v_ hy;split at hp
      · rename_i b hb hn
        split at hp
        · rename_i r hr
          split at hp
          · rename_i hc
            simp only[Oo,beq_iff_eq]at hc;obtain⟨⟨hc1,hc2⟩,hc3⟩:=hc;have hcs:=Ug hr;have hen:n<=(b.cells.drop off).length:=by
              have:=congrArg List.length hcs;rw[O8,hc2,O6]at this;omega
            obtain⟨vs,hvl,hrel,hv⟩:=h.reads hb off n hen;rw[hcs]at hrel;have hkk:r.1=k:=hc3;rw[hkk]at hrel;split at hp
            · cases hp
              exact Qx8 (A.Xar h1.2.1.1 hnn) (A.Xar h2.1.1 hnn) h2.2.1 _ _ _ (fun y hy=>⟨Qi1 hrel hnn y hy,Qsy hrel y hy⟩) _ (fun _ _=>rfl)
            · split at hp
              · cases hp
              · cases hp
                obtain⟨e1,e2⟩:=Qbg hrel;obtain⟨n1,n2,n3⟩:=Qqd (T:=T) (nn:=nn) hrel (by omega);refine Q5 _ _ _ _ (n1 hnn).1 fun e' he ht=>⟨⟨(n1 hnn).2,A.Xar h1.2.1.1 (by omega),A.Xar h2.1.1 (by omega)⟩,?_,trivial⟩
                have n4:=n3 e' (fun i hi=>he i (by omega)) ht;simp only[KK.has,D.ev,n4,Qu];refine⟨⟨by rw[Md,O8,hc2];omega,fun z hz=>?_⟩,by rw[Md,O8,hc2]⟩;rcases Hu hz with hz|rfl
                · obtain ⟨x,hx,rfl⟩:=Mx.1 hz
                  exact(e2 x hx).2
                · rw[A.Xaq h2.1.1 fun i hi=>he i (by omega)];exact h2.2.1
          · cases hp
        · cases hp
      · cases hp
    · rename_i id i k v hx hy
      have h1:=h.cell hx;split at hp
      · rename_i r s hr hs
        split at hp
        · rename_i hc
          simp only[Oo,beq_iff_eq]at hc;obtain⟨⟨⟨hc1,hc2⟩,hc3⟩,hc4⟩:=hc;have hk:=Zx hc2;subst hk;split at hp
          · rename_i ds y htk
            cases hp;obtain⟨q1,q2,q5,q6,q3⟩:=h.Xav hr;obtain⟨vs,g1,g2,g3⟩:=V.Xa0 (h.v_ hy) hc4;obtain⟨k1,k3⟩:=Qe1 (T:=T) htk m Y.nv vs g2;obtain⟨k1,k4⟩:=k1 hnn;refine Q5 _ _ _ _ k1 fun e' he ht=>⟨⟨A.Xar q2.1 (by omega),A.Xar h1.2.1.1 (by omega),k4⟩,?_,trivial⟩
            obtain⟨v1,v2⟩:=k3 e' (fun i hi=>he i (by omega)) ht;simp only[KK.has,D.ev,Qu];rw[A.Xaq q2.1 (fun i hi=>he i (by omega))];refine⟨by rw[Md];exact q3.1.1,fun x hx=>?_⟩;rcases Hu hx with h2|h2
            · exact q3.1.2 x h2
            · rw[h2];exact v2
          · cases hp
        · cases hp
      · cases hp
    · cases hp
  | indexAddr t x i =>
    rw[ho]at hp;simp only[Qy]at hp;split at hp
    · repeat' split at hp
      all_goals (first|(cases hp;done)|(unfold Vj at hp;cases hp;trivial))
    · repeat' split at hp
      all_goals (first|(cases hp;done)|(unfold Vj at hp;cases hp;trivial))
    · split at hp
      · rename_i k y hy hs
        cases hp;have h2:=h.cell hy;exact(Qce (ds:=[]) (A.Xar h2.1.1 hnn) fun _ _=>trivial)
      · cases hp
    · split at hp
      · rename_i k y hy hs
        cases hp;have h2:=h.cell hy;exact(Qce (ds:=[]) (A.Xar h2.1.1 hnn) fun _ _=>trivial)
      · cases hp
    · rename_i e id hu hx
      split at hp
      · rename_i r k y s hr hy hs
        split at hp
        · cases hp
          have h2:=h.cell hy;obtain⟨q1,q2,q5,q6,q3⟩:=h.Xav hr;have w1:=A.Xar h2.1.1 hnn;have q4:=q3.1.1;refine⟨A.Xar q5.1 hnn,?_,⟨trivial,A.Xar w1 (by omega)⟩,Q2 _,⟨A.Xar w1 (by omega),?_⟩,Q2 _,trivial⟩
          · simp only[KK.has,D.ev,q6,has,lo,hi];omega
          · show nn<nn+1+1;omega
        · cases hp
      · cases hp
    · rename_i e id lo' hi' k' hu hx
      obtain⟨b1,b2,b3,b4,b5,b6⟩:=h.cell hx;split at hp
      · rename_i r k y s hr hy hs
        split at hp
        · cases hp
          have h2:=h.cell hy;have w1:=A.Xar h2.1.1 hnn;exact⟨⟨trivial,w1⟩,Q2 _,⟨A.Xar w1 (by omega),A.Xar b3.1 (by omega)⟩,Q2 _,trivial⟩
        · split at hp
          · cases hp
            have h2:=h.cell hy;have w1:=A.Xar h2.1.1 hnn;exact⟨⟨A.Xar b3.1 hnn,A.Xar b2.1 hnn⟩,W7 _ _,⟨trivial,A.Xar w1 (by omega)⟩,Q2 _,⟨A.Xar w1 (by omega),by show nn<nn+1+1;omega⟩,Q2 _,⟨A.Xar b2.1 (by omega),A.Xar w1 (by omega)⟩,W7 _ _,trivial⟩
          · cases hp
      · cases hp
    · rename_i e z hu hx
      obtain⟨b1,b2,b3⟩:=(show C.rel m Y.nv Y.al (.ll z) _ from h.cell hx)
      split at hp
      · rename_i k y hy hs
        cases hp;have h2:=h.cell hy;have w1:=A.Xar h2.1.1 hnn;have q4:=b2.1.1;refine⟨A.Xar b1.1 hnn,?_,⟨trivial,A.Xar w1 (by omega)⟩,Q2 _,⟨A.Xar w1 (by omega),?_⟩,Q2 _,trivial⟩
        · simp only[KK.has,D.ev,has,lo,hi];omega
        · show nn<nn+1+1;omega
      · cases hp
    · cases hp
  | slice t x lo hi mx =>
    rw[ho]at hp;simp only[Qy]at hp;split at hp
    · cases hp
    · split at hp
      · split at hp
        · repeat' split at hp
          all_goals (first|(cases hp;done)|(unfold Vj at hp;cases hp;trivial))
        · split at hp
          · rename_i y s hy hs _
            cases hp;have w1:y.ok nn:=by
              obtain⟨bh1,bh2⟩:=Qcc h hy;cases hi with
              |none=>cases bh2 rfl
              | some z =>
                obtain⟨y',k,e1,e2,e3⟩:=bh1 _ rfl;cases e1;exact A.Xar e2.1 hnn
            exact⟨⟨trivial,w1⟩,Q2 _,⟨A.Xar w1 (by omega),trivial⟩,Q2 _,trivial⟩
          · cases hp
      · repeat' split at hp
        all_goals (first|(cases hp;done)|(unfold Vj at hp;cases hp;trivial))
      · rename_i e id hu hx
        split at hp
        · rename_i r l h' s hr hl hh hs
          split at hp
          · exact Qsz h hr hl hh (d:=.v nn) (fun z=>by show nn<nn+(z+1);omega) hp hnn
          · cases hp
        · cases hp
      · rename_i e id lo' hi' k hu hx
        obtain⟨b1,b2,b3,b4,b5,b6⟩:=h.cell hx;split at hp
        · rename_i r l h' s hr hl hh hs
          split at hp
          · exact Qsz h hr hl hh (d:=hi') (fun z=>A.Xar b3.1 (by omega)) hp hnn
          · split at hp
            · exact Zhg h hr hl hh b2.1 b3.1 hp hnn
            · cases hp
        · cases hp
      · cases hp
  | index t x i =>
    rw[ho]at hp;simp only[Qy]at hp;split at hp
    · simp only [Uj,Vj] at hp
      repeat' split at hp
      all_goals (first|(cases hp;done)|(cases hp;trivial))
    · rename_i len e cs hu hx hi
      obtain⟨vs,h1,hr⟩:=h.v_ hx;split at hp
      · rename_i k y d r hy hdt hs hin
        split at hp
        · cases hp
        · cases hp
          have h2:=h.cell hy;rw[Ug hin]at hr;have w1:=A.Xar h2.1.1 hnn;obtain⟨g1,g2⟩:=Qjj (T:=T) hr (i:=y) w1 hnn;refine Qce w1 fun e' he=>⟨(Qjj (T:=T) hr (i:=y) (nn:=nn+2) (A.Xar w1 (by omega)) (by omega)).1,?_,trivial⟩
          rw[D.Xaq (d:=Qob r.1 y r.2) (n:=nn) g1 he];exact g2
      · cases hp
    · split at hp
      · cases hp;trivial
      · cases hp
    · rename_i s hu hx hidx
      split at hp
      · rename_i k y hy
        cases hp;have h2:=h.cell hy;have w1:=A.Xar h2.1.1 hnn;have hl:∀z∈Qf2 s,∃b:UInt8,z=.lit b.toNat:=fun z hz=>by
          obtain⟨b,_,rfl⟩:=Mx.1 hz;exact⟨b,rfl⟩
        refine Qce w1 fun e' he=>⟨⟨A.Xar w1 (by omega),fun z hz=>by obtain⟨b,rfl⟩:=hl z hz;trivial⟩,?_,trivial⟩
        simp only[KK.has,D.ev,Ou,M2];cases hq:(Qf2 s)[(A.ev e' y).toNat]? with
        |none=>exact Xba _
        | some z =>
          obtain⟨b,rfl⟩:=hl z (Mu hq);simp only[L4,Kh,A.ev,has,lo,hi];have:=b.toNat_lt;omega
      · cases hp
    · cases hp
  | buildSlice t len ps =>
    refine nodefs ?_;rw[ho]at hp;simp only[Qy]at hp;split at hp
    · rename_i q he
      cases hp;obtain⟨_,_,_,_,_,_,_,_,rfl⟩:=Vb he;rfl
    · repeat' split at hp
      all_goals (first|(cases hp;done)|(cases hp;rfl))
  | _ =>
    refine nodefs ?_;rw[ho]at hp;simp only[Qy,Vj,Uj]at hp;repeat' split at hp
    all_goals (first|(cases hp;done)|(cases hp;rfl))
theorem Qm3(hT:∀(g:Nat) X,T[g]?=some X->X.Xbm P w0)(h:Rep w0 m Y a w)(hp:Qy P T Y nn nid o.op=.ok p)(hnn:Y.nv<=nn){e:Nat->Int}(he:∀i,i<nn->e i=m.env i)(ht:Told T e nn p.defs)
  (hr:∀q∈p.reqs,match T[q.1]? with|some X=>X.pre (q.2.map (·.ev e))|none=>False) (hz:∀x∈p.nz,x.ev e≠0):Zf T e (nn+p.defs.length) p.post:=by
 have nodefs:p.post=[]->Zf T e (nn+p.defs.length) p.post:=fun e=>by rw[e];trivial
 cases ho:o.op with
 |call c =>
  rw[ho]at hp;simp only[Qy]at hp;split at hp
  ·cases hp
  ·rename_i args hargs;have hvr:=Qe2 h _ _ hargs;split at hp
   ·repeat' split at hp
    all_goals (first|(cases hp;done)|(unfold Vj at hp;cases hp;trivial)|(cases hp;trivial))
   ·repeat' split at hp
    all_goals (first|(cases hp;done)|(cases hp;trivial))
   ·repeat' split at hp
    all_goals (first|(cases hp;done)|(cases hp;trivial))
   ·repeat' split at hp
    all_goals (first|(cases hp;done)|(cases hp;trivial))
   ·split at hp
    ·rename_i g hg;cases hp;exact Zfc h (by rw[ho];exact hg) hnn he ht (hz (.v (nn+(g.defs.length+1))) (by simp[Qd8])) (hz (.v (nn+(g.defs.length+3))) (by simp[Qd8]))
    ·cases hp
   ·cases hp
   ·cases hp
   ·split at hp
    ·rename_i f caps hx;have hfx:=h.cell hx;split at hp
     ·rename_i g X hfk;obtain⟨hg,hfn⟩:=Qtl hfk;split at hp
      ·cases hp
      split at hp
      ·cases hp
      ·rename_i d hdi;obtain⟨d1,d2⟩:=d;split at hp
       ·cases hp
       ·rename_i q hqo;obtain⟨q1,q2,q3⟩:=q;cases hp;simp only at ht hr ⊢;have hall:Zi m Y.nv Y.al (args++caps.map fun p=>V.one (.ptr p.1 p.2)) (c.args.toList.map a.eval++caps.map fun p=>Value.pointer (some (m.at p.1 p.2))):=by
         exact hvr.append (Bn hfx.1)
        have hti:=Qav (T:=T) _ _ _ _ _ hdi h hall;have hins:=hti.2 e (fun i hi=>he i (by omega)) ht;have hpre:X.pre (d2.map (·.ev e)):=by
         have:=hr (g,d2) (Me.2 rfl);simpa[hg]using this
        have hok:=hT g X hg w h.below _ _ hins hpre;have hout:∃us n0 w',Wv n0 w' X.outs (X.sem (d2.map (·.ev e))) us:=by
         cases hext:X.ext with
         |true =>
          rw[hext]at hok;simp only[if_true]at hok;obtain⟨us,_,h2⟩:=hok;exact⟨us,_,_,h2⟩
         |false =>
          rw[hext]at hok;simp only[K5,if_false]at hok;obtain⟨_,_,_,⟨us,_,h2,_⟩,_⟩:=hok.2 [];exact⟨us,_,_,h2⟩
        obtain⟨us,n0,w',hout⟩:=hout;exact Zj2 (T:=T) hg hqo _ us (hti.1 hnn).2 hout e (fun i y hi=>by rw[M5,Ou,hi];rfl)
     ·cases hp
    ·cases hp
 |buildSlice t len ps =>
  refine nodefs ?_;rw[ho]at hp;simp only[Qy]at hp;split at hp
  ·rename_i q he;cases hp;obtain⟨_,_,_,_,_,_,_,_,rfl⟩:=Vb he;rfl
  ·repeat' split at hp
   all_goals (first|(cases hp;done)|(cases hp;rfl))
 |_ =>
  refine nodefs ?_;rw[ho]at hp;simp only[Qy,Vj,Uj,Jm,U0,Bj,Ji,Ut]at hp;repeat' split at hp
  all_goals (first|(cases hp;done)|(cases hp;rfl)|(cases hp;rename_i hq;obtain⟨_,_,_,_,_,_,_,_,_,rfl⟩:=Yh hq;rfl)|(cases hp;rename_i hq;obtain⟨_,_,_,_,_,_,_,_,_,_,_,_,_,rfl⟩:=W6 hq;rfl))
end
theorem Quq{T:List K}:∀(ds:Defs) (e:Nat->Int) (nn:Nat),Zf T e nn ds->∀(i:Nat) kk d,ds[i]?=some (kk,d)->d.ok (nn+i):=by
 intro ds
 induction ds with
 |nil=>intro e nn _ i kk d h;simp at h
 |cons x ds ih =>
  intro e nn h i kk d hi;obtain⟨k0,d0⟩:=x;cases i with
  |zero=>simp at hi;obtain⟨rfl,rfl⟩:=hi;exact h.1
  |succ i=>have:=ih _ _ h.2.2 i kk d (by simpa using hi);rwa[show nn+1+i=nn+(i+1) by omega]at this
theorem Qdr{T:List K}{ds:Defs}{e e':Nat->Int}{nn:Nat}(hok:∀(i:Nat) kk d,ds[i]?=some (kk,d)->d.ok (nn+i))(h:Told T e nn ds)(he:∀i,i<nn+ds.length->e' i=e i):Told T e' nn ds:=by
 intro i kk d hi;have hl:=(Ow.1 hi).1;have h1:=h i kk d hi;rw[he (nn+i) (by omega),D.Xaq (hok i kk d hi) fun j hj=>he j (by omega)];exact h1
section
variable {P:Program}{T:List K}{w0:World}{m:M}{Y:St}{a:Act}{w:World}{o:Oper}{nn nid:Nat}{p:Plan}{K:Act->World->Prop}{Q:Exit->Act->World->Prop}{goal:Gl}{t:Qq}
theorem Qfr(nv':Nat)(nn:Nat)(s:Sh)(v:V):takeSh {Y with nv:=nv' } nn s v=takeSh Y nn s v:=by
 cases s <;> cases v <;> (try rfl)
theorem Qnn(nv':Nat):∀(cs:List C) (nn:Nat),V0 {Y with nv:=nv' } nn cs=V0 Y nn cs
 |[],_=>rfl
 |c::cs,nn=>by
  unfold V0;rw[Qfr];split
  ·rw[Qnn nv' cs]
  ·rfl
theorem Qu2(nv':Nat)(nn:Nat)(s:Sh)(v:V):Wz {Y with nv:=nv' } nn s v=Wz Y nn s v:=by
 unfold Wz;rw[Qfr];split
 ·unfold Qfb;split
  ·rfl
  ·rfl
  ·rename_i id off n c;have e:({Y with nv:=nv' }:St).box id=Y.box id:=rfl;rw[e];split
   ·rfl
   ·rw[Qnn]
  ·rfl
 ·rfl
theorem Qxi(nv':Nat):∀(ss:List Sh) (vs:List V) (nn:Nat),Yx {Y with nv:=nv' } nn ss vs=Yx Y nn ss vs:=by
 intro ss
 induction ss with
 |nil=>intro vs nn;cases vs <;> rfl
 |cons s ss ih=>intro vs nn;cases vs with
  |nil=>rfl
  |cons v vs=>simp only[Yx,Qu2,ih]
theorem Zmk(nv':Nat)(op:Op):Qba P {Y with nv:=nv' } nn op=Qba P Y nn op:=by
 simp only[Qba,Qhx,Qfr];rfl
theorem Qoc(nv':Nat)(op:Op):Qy P T {Y with nv:=nv' } nn nid op=Qy P T Y nn nid op:=by
 cases op with
 |call c=>simp only[Qy,Qxi,Zmk];rfl
 |_=>rfl
theorem Qjc(h:Rep w0 m Y a w)(hp:Qy P T Y nn nid o.op=.ok p)(hnn:Y.nv<=nn):(∀q∈p.reqs,∀x∈q.2,x.ok (nn+p.defs.length))/\∀x∈p.nz,x.ok (nn+p.defs.length):=by
 have non:p.reqs=[]->p.nz=[]->(∀q∈p.reqs,∀x∈q.2,x.ok (nn+p.defs.length))/\∀x∈p.nz,x.ok (nn+p.defs.length):=fun e1 e2=>by rw[e1,e2];simp
 cases ho:o.op with
 |call c =>
  rw[ho]at hp;simp only[Qy]at hp;split at hp
  ·cases hp
  ·rename_i args hargs;have hvr:=Qe2 h _ _ hargs;split at hp
   ·repeat' split at hp
    all_goals (first|(cases hp;done)|(unfold Vj at hp;cases hp;simp)|(cases hp;simp))
   ·repeat' split at hp
    all_goals (first|(cases hp;done)|(cases hp;simp))
   ·repeat' split at hp
    all_goals (first|(cases hp;done)|(cases hp;simp))
   ·repeat' split at hp
    all_goals (first|(cases hp;done)|(cases hp;simp))
   ·split at hp
    ·rename_i g hg;cases hp;refine⟨by simp[Qd8],fun x hx=>?_⟩;simp only[Qd8,Mh,M6,or_false]at hx;rcases hx with rfl|rfl <;> (simp only[A.ok,Qd8,Qhm,O2,Ov,O5];omega)
    ·cases hp
   ·cases hp
   ·cases hp
   ·split at hp
    ·rename_i f caps hx;have hfx:=h.cell hx;split at hp
     ·split at hp
      ·cases hp
      split at hp
      ·cases hp
      ·rename_i d hdi;split at hp
       ·cases hp
       ·cases hp;have hall:Zi m Y.nv Y.al (args++caps.map fun p=>V.one (.ptr p.1 p.2)) (c.args.toList.map a.eval++caps.map fun p=>Value.pointer (some (m.at p.1 p.2))):=by
         exact hvr.append (Bn hfx.1)
        refine⟨fun q hq=>?_,by simp⟩;rw[Me.1 hq];exact((Qav (T:=T) _ _ _ _ _ hdi h hall).1 hnn).2
     ·cases hp
    ·cases hp
 |binOp op t x y yt =>
  rw[ho]at hp;simp only[Qy]at hp;split at hp
  ·rename_i u v hu hv;have h1:=h.v_ hu;have h2:=h.v_ hv;split at hp
   ·rename_i q hq;cases hp;obtain⟨id,r,e,n,rfl,rfl,hr,hut,hn,rfl⟩:=Yh hq;exact⟨by simp,by simp[A.ok]⟩
   rename_i hnone;clear hnone;unfold Jm at hp;split at hp
   ·rename_i k a k' b;have w1:∀z,b.ok (nn+z):=fun z=>A.Xar h2.1.1 (by omega)
    simp only[U0,Bj]at hp;repeat' split at hp
    all_goals (first|(cases hp;done)|(cases hp;exact non rfl rfl)|(cases hp;exact⟨by simp,by simpa using w1 _⟩)|(cases hp;exact⟨by simp,by simp[A.ok]⟩))
   all_goals
    try simp only[Bj,Vj]at hp
    repeat' split at hp
    all_goals (first|(cases hp;done)|(cases hp;exact non rfl rfl))
  ·cases hp
 |indexAddr t x i =>
  rw[ho]at hp;simp only[Qy,Vj]at hp;repeat' split at hp
  all_goals (first|(cases hp;done)|(cases hp;exact non rfl rfl)|(cases hp;exact⟨by simp,by simp[Jj,Zer,Zfv,Qve,A.ok]⟩))
 |index t x i =>
  rw[ho]at hp;simp only[Qy,Vj,Uj]at hp;repeat' split at hp
  all_goals (first|(cases hp;done)|(cases hp;exact non rfl rfl)|(cases hp;exact⟨by simp,by simp[Jj,A.ok]⟩))
 |slice t x lo hi mx =>
  rw[ho]at hp;simp only[Qy,Vj,Ut,Qa4]at hp;repeat' split at hp
  all_goals (first|(cases hp;done)|(cases hp;exact non rfl rfl)|(cases hp;exact⟨by simp,by simp[A.ok,Zaz]⟩))
 |buildSlice t len ps =>
  refine(fun(q:p.reqs=[]/\p.nz=[])=>non q.1 q.2) ?_;rw[ho]at hp;simp only[Qy]at hp;split at hp
  ·rename_i q he;cases hp;obtain⟨_,_,_,_,_,_,_,_,rfl⟩:=Vb he;exact⟨rfl,rfl⟩
  ·repeat' split at hp
   all_goals (first|(cases hp;done)|(cases hp;exact⟨rfl,rfl⟩))
 |_ =>
  rw[ho]at hp;simp only[Qy,Vj,Uj,Bj,Ji]at hp;repeat' split at hp
  all_goals (first|(cases hp;done)|(cases hp;exact non rfl rfl)|(cases hp;rename_i hq;obtain⟨_,_,_,_,_,_,_,_,_,_,_,_,_,rfl⟩:=W6 hq;exact non rfl rfl))
theorem Qkn{e:Nat->Int}:∀(l:List (Nat×List A)),(reqs l t).holds T goal e->(∀q∈l,match T[q.1]? with|some X=>X.pre (q.2.map (·.ev e))|none=>False)/\t.holds T goal e:=by
 intro l
 induction l with
 |nil=>intro h;exact⟨by simp,h⟩
 |cons q l ih =>
  intro h;obtain⟨g,as⟩:=q;obtain⟨h1,h2⟩:=h;obtain⟨g1,g2⟩:=ih h2;exact⟨by simp only[Mh,forall_eq_or_imp];exact⟨h1,g1⟩,g2⟩
theorem Qmc{e:Nat->Int}:∀(l:List A),(nzs l t).holds T goal e->(∀x∈l,x.ev e≠0)/\t.holds T goal e:=by
 intro l
 induction l with
 |nil=>intro h;exact⟨by simp,h⟩
 |cons q l ih =>
  intro h;obtain⟨h1,h2⟩:=h;obtain⟨g1,g2⟩:=ih h2;exact⟨by simp only[Mh,forall_eq_or_imp];exact⟨h1,g1⟩,g2⟩
structure Fine (T:List Sx.K) (e:Nat->Int) (nn:Nat) (p:Plan):Prop where
 defs:Told T e nn p.defs
 post:Told T e (nn+p.defs.length) p.post
 nz:∀x∈p.nz,x.ev e≠0
 req:∀q∈p.reqs,match T[q.1]? with|some X=>X.pre (q.2.map (·.ev e))|none=>False
theorem Zhy(hT:∀(g:Nat) X,T[g]?=some X->X.Xbm P w0)(h:Rep w0 m Y a w)(hp:Qy P T Y nn nid o.op=.ok p)(hnn:Y.nv<=nn)(hh:(Qky nn p t).holds T goal m.env) :
  ∃e,(∀i,i<nn->e i=m.env i)/\Fine T e nn p/\t.holds T goal e/\(∀i,nn+p.defs.length+p.post.length<=i->e i=m.env i):=by
 unfold Qky at hh;have g1:=Qt3 h hp hnn;obtain⟨e1,a1,a2,a3,a4⟩:=Xe _ _ _ hh g1;obtain⟨r1,r2⟩:=Qkn _ a4;obtain⟨z1,z2⟩:=Qmc _ r2;have g2:=Qm3 hT h hp hnn a1 a3 r1 z1;obtain⟨e2,b1,b2,b3,b4⟩:=Xe _ _ _ z2 g2;obtain⟨at1,at2⟩:=Qjc h hp hnn;refine⟨e2,fun i hi=>(b1 i (by omega)).trans (a1 i hi),⟨Qdr (Quq _ _ _ g1) a3 fun i hi=>b1 i hi,b3,fun x hx=>?_,fun q hq=>?_⟩,b4,fun i hi=>(b2 i hi).trans (a2 i (by omega))⟩
 ·rw[A.Xaq (at2 x hx) fun i hi=>b1 i (by omega)];exact z1 x hx
 ·have:=r1 q hq;rw[X2 (at1 q hq) fun i hi=>b1 i hi];exact this
theorem Zmt(hT:∀(g:Nat) X,T[g]?=some X->X.Xbm P w0)(h:Rep w0 m Y a w)(hp:Qy P T Y nn nid o.op=.ok p)(hnn:Y.nv<=nn)(hn:Vd p.eff=true->Y.boxes[nid]?=some none)
  (nv':Nat) (hnv:nn+p.defs.length+p.post.length<=nv') (hh:(Qky nn p t).holds T goal m.env)
  (hK:∀m' a' w',(∀i,i<nn->m'.env i=m.env i)->Fine T m'.env nn p->MExt m Y.nv Y.al m' nv' (Qaj {Y with nv:=nv' } p nid o.dst).al->Rep w0 m' (Qaj {Y with nv:=nv' } p nid o.dst) a' w'->t.holds T goal m'.env->K a' w'):o.wp P a w K Q:=by
 obtain⟨e,he,hf,ht,_⟩:=Zhy hT h hp hnn hh;have hr:=h.names e (fun i hi=>he i (by omega)) nv' (by omega);have hx:MExt m Y.nv Y.al {m with env:=e } nv' Y.al:=⟨fun i hi=>he i (by omega),fun _ _=>rfl,rfl,fun _ _=>rfl,by omega,fun _ h=>h⟩
 refine Qol hT hr (by rw[Qoc];exact hp) hn hf.defs hf.post hnv hf.nz hf.req fun m' a' w' h1 h2 h3=>?_
 have h1':m'.env=e:=h1;exact hK m' a' w' (by rw[h1'];exact he) (by rw[h1'];exact hf) (hx.trans h2) h3 (by rw[h1'];exact ht)
end
end Go.Sx
