/- Part Ho of the proof. -/
import Derived.Test.YtaablkpongjlkaaGreatHn
import Derived.Test.YtaablkpongjlkaaGreatHl
set_option linter.unusedVariables false
set_option linter.unusedSimpArgs false
namespace Go.Sx
open Go Go.RowKit
set_option maxRecDepth 100000
def rBk (g i m n:Nat) (cs:List (Nat×D)):List Rule:=((List.range n).map fun j=>{l:=.app g j [.var i,.var m],r:=.a (.var (i+j)),cs:=cs })++[{l:=.app g n [.var i,.var m],r:=.a (.lit 0),cs:=cs }]
def rKb (k:Option Bool):List Rule:=match k with
 | none=>rLit 1 (vars 0 7) [0]
 | some true=>rLit 1 (vars 0 7) [1]++({l:=.cmp .eql (.var 0) (.lit 0),r:=.a (.lit 1) } :: {l:=.app 2 1 (vars 1 3),r:=.a (.lit 0) }::rBk 4 0 21 7 [(21,.app 2 0 (vars 1 3))])
 | some false=>rLit 1 (vars 0 7) [1]++({l:=.cmp .eql (.var 0) (.lit 0),r:=.a (.lit 0) } :: {l:=.app 3 1 (.var 0::vars 4 3),r:=.a (.lit 0) }::rBk 4 0 21 7 [(21,.app 3 0 (.var 0::vars 4 3))])
def rSb (m:Nat) (k:Option Bool):List Rule:=match k with
 | none=>rLit 5 (vars 7 9) [0]
 | some true=>rLit 5 (vars 7 9) [1]++({l:=.cmp .eql (.var 7) (.lit 0),r:=.a (.lit 1) } :: {l:=.app 6 1 (vars 8 5),r:=.a (.lit 0) }::rBk 7 7 m 9 [(m,.app 6 0 (vars 8 5))])
 | some false=>rLit 5 (vars 7 9) [1]++({l:=.cmp .eql (.var 7) (.lit 0),r:=.a (.lit 0) } :: {l:=.app 3 1 (.var 7::vars 13 3),r:=.a (.lit 0) }::rBk 7 7 m 9 [(m,.app 3 0 (.var 7::vars 13 3))])
def qKb (k:Option Bool):List (Nat×List A):=match k with | some false=>[(3,.var 0::vars 4 3)] | _=>[]
def qSb (k:Option Bool):List (Nat×List A):=match k with | some false=>[(3,.var 7::vars 13 3)] | _=>[]
def mB (k:Option Bool):Nat:=match k with | none=>22 | _=>39
def trivB:List Nat:=[0,1,2,4,5,6,7]
def auB (k s:Option Bool):Au:={rules:=rLit 0 [] [1]++(rKb k++rSb (mB k) s),triv:=trivB,reqs:=qKb k++qSb s }
noncomputable def kListB (te tb:TypeId) (f0 f1 f2 f3 f4 f5 f6 f7:FuncId):List K:=[kAwake f0,kKeyChk f1,kBytes1 te f2,kLBytes tb f3,kReadKey f4,kSigChk f5,kBytes2 te f6,kReadSig f7]
section
variable {te tb:TypeId} {f0 f1 f2 f3 f4 f5 f6 f7:FuncId} {e:Nat->Int}
theorem lit_allB {g:Nat} {us:List A} {xs:List Int} {Y:K} (h:(kListB te tb f0 f1 f2 f3 f4 f5 f6 f7)[g]?=some Y) (hs:Y.sem (us.map (·.ev e))=xs):RulesOk (kListB te tb f0 f1 f2 f3 f4 f5 f6 f7) e (rLit g us xs):=rLit_ok h fun j _=>by rw [hs]
theorem rBk_ok {T:List K} {g i m n:Nat} {cs:List (Nat×D)} {Y:K} (h:T[g]?=some Y) (hs:CsOk T e cs->(∀ j,j<n->(Y.sem [e i,e m]).getD j 0=e (i+j))/\(Y.sem [e i,e m]).getD n 0=0):RulesOk T e (rBk g i m n cs):=by
 refine rulesOk_app (rulesOk_map fun j hj hc=>?_) ⟨fun hc=>?_,trivial⟩
 ·show (D.app g j [.var i,.var m]).ev T e=e (i+j)
  simp only [D.ev,h]
  exact (hs hc).1 j (List.mem_range.1 hj)
 ·show (D.app g n [.var i,.var m]).ev T e=0
  simp only [D.ev,h]
  exact (hs hc).2
theorem triv_okB:TrivOk (kListB te tb f0 f1 f2 f3 f4 f5 f6 f7) trivB:=⟨fun _=>trivial,fun _=>trivial,fun _=>trivial,fun _=>trivial,fun _=>trivial,fun _=>trivial,fun _=>trivial,trivial⟩
theorem reqsOk_app {T:List K}:∀ {a b:List (Nat×List A)},ReqsOk T e a->ReqsOk T e b->ReqsOk T e (a++b)
 | [],_,_,h=>h
 | _::_,_,h,h'=>⟨h.1,reqsOk_app h.2 h'⟩
def kB (o:Prop) (s:Int) (k:Option Bool):Prop:=match k with | none=>¬ o | some b=>o/\b=decide (s=0)
theorem kB_ex (o:Prop) (s:Int):∃ k,kB o s k:=by
 by_cases h:o
 ·exact ⟨some (decide (s=0)),h,rfl⟩
 ·exact ⟨none,h⟩
theorem rKb_ok {k:Option Bool} (hk:kB (keyOk (e 0) (e 1) (e 2) (e 3) (e 4) (e 5) (e 6)) (e 0) k) (h1:0<=e 1) (h2:0<=e 2) (h3:0<=e 3/\e 3<=1) (h4:0<=e 4/\e 4<18446744073709551616) (h5:0<=e 5/\e 5<18446744073709551616) (h6:0<=e 6/\e 6<=1) :
  RulesOk (kListB te tb f0 f1 f2 f3 f4 f5 f6 f7) e (rKb k)/\ReqsOk (kListB te tb f0 f1 f2 f3 f4 f5 f6 f7) e (qKb k):=by
 match k,hk with
 | none,hk=>exact ⟨lit_allB (Y:=kKeyChk f1) rfl (congrArg (fun x=>[x]) (bj_f hk)),trivial⟩
 | some true,⟨hk,hd⟩ =>
  have h0:e 0=0:=of_decide_eq_true hd.symm
  have hb:bytesR (e 1) (e 2) (e 3)=[enc (bytes1V (e 1) (e 2) (e 3)),0]:=bytesR_t (keyOk_0 hk h0).2.1
  have hr:=back_key hk h1 h2 h3 h4 h5 h6
  rw [keyB,if_pos h0] at hr
  refine ⟨rulesOk_app (lit_allB (Y:=kKeyChk f1) rfl (congrArg (fun x=>[x]) (bj_t hk))) ⟨fun _=>?_,fun _=>?_,rBk_ok (Y:=kReadKey f4) rfl fun hc=>?_⟩,trivial⟩
  ·show b2i (e 0==0)=1
   rw [h0];rfl
  ·show (bytesR (e 1) (e 2) (e 3)).getD 1 0=0
   rw [hb];rfl
  ·have e21:e 21=(bytesR (e 1) (e 2) (e 3)).getD 0 0:=hc (21,.app 2 0 (vars 1 3)) (List.mem_cons_self ..)
   have hs:(kReadKey f4).sem [e 0,e 21]=[e 0,e 1,e 2,e 3,e 4,e 5,e 6,0]:=by
    show readKey (e 0) (dec (e 21))=_
    rw [e21,hb];exact (congrArg (readKey (e 0)) (dec_enc _)).trans hr
   rw [hs]
   refine ⟨fun j hj=>?_,rfl⟩
   match j,hj with
   | 0,_=>rfl | 1,_=>rfl | 2,_=>rfl | 3,_=>rfl | 4,_=>rfl | 5,_=>rfl | 6,_=>rfl
 | some false,⟨hk,hd⟩ =>
  have h0:¬ e 0=0:=of_decide_eq_false hd.symm
  obtain ⟨k1,k2,k3⟩:=keyOk_L hk h0
  have hr:=back_key hk h1 h2 h3 h4 h5 h6
  rw [keyB,if_neg h0] at hr
  refine ⟨rulesOk_app (lit_allB (Y:=kKeyChk f1) rfl (congrArg (fun x=>[x]) (bj_t hk))) ⟨fun _=>?_,fun _=>rfl,rBk_ok (Y:=kReadKey f4) rfl fun hc=>?_⟩,⟨k1,k3.1⟩,trivial⟩
  ·show b2i (e 0==0)=0
   rw [beq_eq_false_iff_ne.2 h0];rfl
  ·have e21:e 21=enc (bytesL (e 4) (e 5) (e 6)):=hc (21,.app 3 0 (.var 0::vars 4 3)) (List.mem_cons_self ..)
   have hs:(kReadKey f4).sem [e 0,e 21]=[e 0,e 1,e 2,e 3,e 4,e 5,e 6,0]:=by
    show readKey (e 0) (dec (e 21))=_
    rw [e21,dec_enc];exact hr
   rw [hs]
   refine ⟨fun j hj=>?_,rfl⟩
   match j,hj with
   | 0,_=>rfl | 1,_=>rfl | 2,_=>rfl | 3,_=>rfl | 4,_=>rfl | 5,_=>rfl | 6,_=>rfl
theorem rSb_ok {m:Nat} {k:Option Bool} (hk:kB (sigOk (e 7) (e 8) (e 9) (e 10) (e 11) (e 12) (e 13) (e 14) (e 15)) (e 7) k) (h1:0<=e 8) (h2:0<=e 9) (h1':0<=e 10) (h2':0<=e 11) (h3:0<=e 12/\e 12<=1) (h4:0<=e 13/\e 13<18446744073709551616) (h5:0<=e 14/\e 14<18446744073709551616) (h6:0<=e 15/\e 15<=1) :
  RulesOk (kListB te tb f0 f1 f2 f3 f4 f5 f6 f7) e (rSb m k)/\ReqsOk (kListB te tb f0 f1 f2 f3 f4 f5 f6 f7) e (qSb k):=by
 match k,hk with
 | none,hk=>exact ⟨lit_allB (Y:=kSigChk f5) rfl (congrArg (fun x=>[x]) (bj_f hk)),trivial⟩
 | some true,⟨hk,hd⟩ =>
  have h0:e 7=0:=of_decide_eq_true hd.symm
  have hb:bytesR2 (e 8) (e 9) (e 10) (e 11) (e 12)=[enc (bytes2V (e 8) (e 9) (e 10) (e 11) (e 12)),0]:=bytesR2_t (sigOk_0 hk h0).2.1
  have hr:=back_sig hk h1 h2 h1' h2' h3 h4 h5 h6
  rw [sigB,if_pos h0] at hr
  refine ⟨rulesOk_app (lit_allB (Y:=kSigChk f5) rfl (congrArg (fun x=>[x]) (bj_t hk))) ⟨fun _=>?_,fun _=>?_,rBk_ok (Y:=kReadSig f7) rfl fun hc=>?_⟩,trivial⟩
  ·show b2i (e 7==0)=1
   rw [h0];rfl
  ·show (bytesR2 (e 8) (e 9) (e 10) (e 11) (e 12)).getD 1 0=0
   rw [hb];rfl
  ·have e21:e m=(bytesR2 (e 8) (e 9) (e 10) (e 11) (e 12)).getD 0 0:=hc (m,.app 6 0 (vars 8 5)) (List.mem_cons_self ..)
   have hs:(kReadSig f7).sem [e 7,e m]=[e 7,e 8,e 9,e 10,e 11,e 12,e 13,e 14,e 15,0]:=by
    show readSig (e 7) (dec (e m))=_
    rw [e21,hb];exact (congrArg (readSig (e 7)) (dec_enc _)).trans hr
   rw [hs]
   refine ⟨fun j hj=>?_,rfl⟩
   match j,hj with
   | 0,_=>rfl | 1,_=>rfl | 2,_=>rfl | 3,_=>rfl | 4,_=>rfl | 5,_=>rfl | 6,_=>rfl | 7,_=>rfl | 8,_=>rfl
 | some false,⟨hk,hd⟩ =>
  have h0:¬ e 7=0:=of_decide_eq_false hd.symm
  obtain ⟨k1,k2,k3⟩:=sigOk_L hk h0
  have hr:=back_sig hk h1 h2 h1' h2' h3 h4 h5 h6
  rw [sigB,if_neg h0] at hr
  refine ⟨rulesOk_app (lit_allB (Y:=kSigChk f5) rfl (congrArg (fun x=>[x]) (bj_t hk))) ⟨fun _=>?_,fun _=>rfl,rBk_ok (Y:=kReadSig f7) rfl fun hc=>?_⟩,⟨k1,k3.1⟩,trivial⟩
  ·show b2i (e 7==0)=0
   rw [beq_eq_false_iff_ne.2 h0];rfl
  ·have e21:e m=enc (bytesL (e 13) (e 14) (e 15)):=hc (m,.app 3 0 (.var 7::vars 13 3)) (List.mem_cons_self ..)
   have hs:(kReadSig f7).sem [e 7,e m]=[e 7,e 8,e 9,e 10,e 11,e 12,e 13,e 14,e 15,0]:=by
    show readSig (e 7) (dec (e m))=_
    rw [e21,dec_enc];exact hr
   rw [hs]
   refine ⟨fun j hj=>?_,rfl⟩
   match j,hj with
   | 0,_=>rfl | 1,_=>rfl | 2,_=>rfl | 3,_=>rfl | 4,_=>rfl | 5,_=>rfl | 6,_=>rfl | 7,_=>rfl | 8,_=>rfl
theorem back_au (P:Au->Prop) (h:∀ k s,P (auB k s)) (e:Nat->Int) (hk:kkHas [.int .i64,.num,.num,.bit,.int .u64,.int .u64,.bit,.int .i64,.num,.num,.num,.num,.bit,.int .u64,.int .u64,.bit] [e 0,e 1,e 2,e 3,e 4,e 5,e 6,e 7,e 8,e 9,e 10,e 11,e 12,e 13,e 14,e 15]) :
  ∃ c,(∀ e',(∀ i,i<16->e' i=e i)->c.Ok (kListB te tb f0 f1 f2 f3 f4 f5 f6 f7) e')/\P c:=by
 obtain ⟨_,k1,k2,k3,k4,k5,k6,_,k8,k9,k10,k11,k12,k13,k14,k15,_⟩:=hk
 obtain ⟨k,hk⟩:=kB_ex (keyOk (e 0) (e 1) (e 2) (e 3) (e 4) (e 5) (e 6)) (e 0)
 obtain ⟨s,hs⟩:=kB_ex (sigOk (e 7) (e 8) (e 9) (e 10) (e 11) (e 12) (e 13) (e 14) (e 15)) (e 7)
 have u:∀ {x:Int},has .u64 x->0<=x/\x<18446744073709551616:=fun h=>by have:=has_u64 h;omega
 refine ⟨auB k s,fun e' he=>?_,h k s⟩
 obtain ⟨a1,a2⟩:=rKb_ok (te:=te) (tb:=tb) (f0:=f0) (f1:=f1) (f2:=f2) (f3:=f3) (f4:=f4) (f5:=f5) (f6:=f6) (f7:=f7) (e:=e') (k:=k)
  (by rw [he 0 (by decide),he 1 (by decide),he 2 (by decide),he 3 (by decide),he 4 (by decide),he 5 (by decide),he 6 (by decide)];exact hk)
  (by rw [he 1 (by decide)];exact k1.1) (by rw [he 2 (by decide)];exact k2.1) (by rw [he 3 (by decide)];exact k3) (by rw [he 4 (by decide)];exact u k4) (by rw [he 5 (by decide)];exact u k5) (by rw [he 6 (by decide)];exact k6)
 obtain ⟨b1,b2⟩:=rSb_ok (te:=te) (tb:=tb) (f0:=f0) (f1:=f1) (f2:=f2) (f3:=f3) (f4:=f4) (f5:=f5) (f6:=f6) (f7:=f7) (e:=e') (k:=s) (m:=mB k)
  (by rw [he 7 (by decide),he 8 (by decide),he 9 (by decide),he 10 (by decide),he 11 (by decide),he 12 (by decide),he 13 (by decide),he 14 (by decide),he 15 (by decide)];exact hs)
  (by rw [he 8 (by decide)];exact k8.1) (by rw [he 9 (by decide)];exact k9.1) (by rw [he 10 (by decide)];exact k10.1) (by rw [he 11 (by decide)];exact k11.1) (by rw [he 12 (by decide)];exact k12) (by rw [he 13 (by decide)];exact u k13) (by rw [he 14 (by decide)];exact u k14) (by rw [he 15 (by decide)];exact k15)
 exact ⟨rulesOk_app (lit_allB (Y:=kAwake f0) rfl rfl) (rulesOk_app a1 b1),reqsOk_app a2 b2,triv_okB,trivial⟩
def kBack11 (f:FuncId):K:={fn:=f,ext:=false,ins:=[.agg lsKey,.agg lsSg],outs:=[oB],pre:=fun _=>True,sem:=fun _=>[1] }
end
end Go.Sx
