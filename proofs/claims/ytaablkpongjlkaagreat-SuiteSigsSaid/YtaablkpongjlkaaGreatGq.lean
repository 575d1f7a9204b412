/- Part Gq of the proof. -/
import Derived.Test.YtaablkpongjlkaaGreatGm
import Derived.Test.YtaablkpongjlkaaGreatGp
set_option linter.unusedVariables false
set_option linter.unusedSimpArgs false
namespace Go.Sx
open Go Go.RowKit
set_option maxRecDepth 100000
def sa9:List A:=vars 0 9
def sb9:List A:=vars 9 9
def s18:List A:=vars 0 18
def sn10:List A:=vars 0 9++[.var 18]
def csLentS:List (Nat×D):=[(23,.app 0 0 [.var 20]),(24,.app 0 1 [.var 20])]
def rLongS (b:Bool):Rule:={l:=.cmp .gtr (.var 21) (.lit 200),r:=.a (bitA b),cs:=[(21,.llen (.var 20))] }
def auLongS:Au:={rules:=[rLongS true] }
def reqsS:List (Nat×List A):=[(0,[.var 20]),(5,[.var 23,.var 24,.var 20])]
def rSameS:List Rule:=rTo 4 [.var 19,.var 20] 3 [.var 19,.var 23,.var 24] csLentS 10++[{l:=.app 5 0 [.var 23,.var 24,.var 20],r:=.a (.lit 1),cs:=csLentS }]
def trivS:List Nat:=[1,2,3,4,6,7,11,13]
def errS (w:Int):List Int:=[0,0,0,0,0,0,0,0,0,w]
def auNoS:Au:={rules:=rLongS false::(rSameS++(rLit 6 sa9 [0]++(rLit 7 sa9 [0]++(rLit 1 s18 (errS 5)++rLit 2 sn10 (errS 5))))),triv:=trivS,reqs:=reqsS }
def rSumS (w:Int):List Rule:=if w==0 then {l:=.app 1 9 s18,r:=.a (.lit 0) }::rTo 8 s18 1 s18 [] 9 else rLit 1 s18 (errS w)
def rTimS (w:Int):List Rule:=if w==0 then {l:=.app 2 9 sn10,r:=.a (.lit 0) }::rTo 9 sn10 2 sn10 [] 9 else rLit 2 sn10 (errS w)
def rBytS (z:Bool):List Rule:=if z then [{l:=.cmp .eql (.var 0) (.lit 0),r:=.a (.lit 1) },{l:=.app 10 0 sa9,r:=.d (.app 13 0 (vars 1 5)) },{l:=.app 13 1 (vars 1 5),r:=.a (.lit 0) }]
 else [{l:=.cmp .eql (.var 0) (.lit 0),r:=.a (.lit 0) },{l:=.app 10 0 sa9,r:=.d (.app 14 0 (.var 0::vars 6 3)) },{l:=.app 14 1 (.var 0::vars 6 3),r:=.a (.lit 0) }]
def auOkS (z:Bool) (w v:Int):Au :=
 {rules:=rLongS false::(rSameS++(rLit 6 sa9 [1]++(rLit 7 sa9 [1]++(rSumS w++(rTimS v++(rBytS z++({l:=.app 12 0 [.var 0,.var 18],r:=.a (bitA (v==0)) } :: {l:=.app 7 0 sb9,r:=.a (bitA (w != 5)) }::(if w==5 then [] else [{l:=.cmp .neq (.var 0) (.var 9),r:=.a (bitA (w==2)) }])))))))),
  triv:=trivS,refl:=[11],
  reqs:=reqsS++((10,sa9)::(12,[.var 0,.var 18])::((if w==0 then [(8,s18)] else [])++((if v==0 then [(9,sn10)] else [])++(if z then [] else [(14,.var 0::vars 6 3)])))) }
noncomputable def kListS (te tb:TypeId) (f0 f1 f2 f3 f4 f5 f6 f7 f8 f9 f10 f11 f12 f13 f14:FuncId):List K:=[kLentB te f0,kSigAdd f1,kSigMul f2,kReadSigL f3,kReadSig f4,kKeptB f5,kSigChk f6,kSigChk f7,kRSAdd f8,kRSMul f9,kRSBytes te f10,kSame f11,kRScalar f12,kBytes2 te f13,kLBytes tb f14]
section
variable {te tb:TypeId} {f0 f1 f2 f3 f4 f5 f6 f7 f8 f9 f10 f11 f12 f13 f14:FuncId} {e:Nat->Int}
theorem cs_lentS (h:CsOk (kListS te tb f0 f1 f2 f3 f4 f5 f6 f7 f8 f9 f10 f11 f12 f13 f14) e csLentS):e 23=enc (lentB (dec (e 20)))/\e 24=((dec (e 20)).length:Int) :=
 ⟨h (23,.app 0 0 [.var 20]) (List.mem_cons_self ..),h (24,.app 0 1 [.var 20]) (List.mem_cons_of_mem _ (List.mem_cons_self ..))⟩
theorem rSameS_ok:RulesOk (kListS te tb f0 f1 f2 f3 f4 f5 f6 f7 f8 f9 f10 f11 f12 f13 f14) e rSameS:=by
 refine rulesOk_app (rTo_ok (X:=kReadSig f4) (X':=kReadSigL f3) rfl rfl fun hc j _=>?_) ⟨fun hc=>?_,trivial⟩
 ·obtain ⟨h1,h2⟩:=cs_lentS hc
  show (readSig (e 19) (dec (e 20))).getD j 0=(readSig (e 19) ((dec (e 23)).take (e 24).toNat)).getD j 0
  rw [h1,h2,dec_enc,Int.toNat_natCast,lentB_take]
 ·obtain ⟨h1,h2⟩:=cs_lentS hc
  show bj (e 24=((dec (e 20)).length:Int)/\dec (e 23)=lentB (dec (e 20)))=1
  exact bj_t ⟨h2,by rw [h1,dec_enc]⟩
theorem rLongS_ok {b:Bool} (h:b2i b=b2i (decide (((dec (e 20)).length:Int) > 200))):CsOk (kListS te tb f0 f1 f2 f3 f4 f5 f6 f7 f8 f9 f10 f11 f12 f13 f14) e (rLongS b).cs->(rLongS b).l.ev (kListS te tb f0 f1 f2 f3 f4 f5 f6 f7 f8 f9 f10 f11 f12 f13 f14) e=(rLongS b).r.ev (kListS te tb f0 f1 f2 f3 f4 f5 f6 f7 f8 f9 f10 f11 f12 f13 f14) e:=fun hc=>by
 have h17:e 21=((dec (e 20)).length:Int):=hc (21,.llen (.var 20)) (List.mem_cons_self ..)
 show b2i (decide (e 21 > 200))=(bitA b).ev e
 rw [h17,bitA_ev,h]
theorem triv_okS:TrivOk (kListS te tb f0 f1 f2 f3 f4 f5 f6 f7 f8 f9 f10 f11 f12 f13 f14) trivS:=⟨fun _=>trivial,fun _=>trivial,fun _=>trivial,fun _=>trivial,fun _=>trivial,fun _=>trivial,fun _=>trivial,fun _=>trivial,trivial⟩
theorem reqs_okS (h:((dec (e 20)).length:Int)<=200) {l:List (Nat×List A)} (hl:ReqsOk (kListS te tb f0 f1 f2 f3 f4 f5 f6 f7 f8 f9 f10 f11 f12 f13 f14) e l):ReqsOk (kListS te tb f0 f1 f2 f3 f4 f5 f6 f7 f8 f9 f10 f11 f12 f13 f14) e (reqsS++l) :=
 ⟨show (dec (e 20)).length<=1000000000 by omega,show (dec (e 20)).length<=1000000000 by omega,hl⟩
theorem auLongS_ok (h:((dec (e 20)).length:Int) > 200):auLongS.Ok (kListS te tb f0 f1 f2 f3 f4 f5 f6 f7 f8 f9 f10 f11 f12 f13 f14) e :=
 ⟨⟨rLongS_ok (by rw [decide_eq_true h]),trivial⟩,trivial,trivial,trivial⟩
theorem lit_allS {g:Nat} {us:List A} {xs:List Int} {X:K} (h:(kListS te tb f0 f1 f2 f3 f4 f5 f6 f7 f8 f9 f10 f11 f12 f13 f14)[g]?=some X) (hs:X.sem (us.map (·.ev e))=xs):RulesOk (kListS te tb f0 f1 f2 f3 f4 f5 f6 f7 f8 f9 f10 f11 f12 f13 f14) e (rLit g us xs):=rLit_ok h fun j _=>by rw [hs]
theorem auNoS_ok (h:((dec (e 20)).length:Int)<=200) (hn:¬ sigOk (e 0) (e 1) (e 2) (e 3) (e 4) (e 5) (e 6) (e 7) (e 8)):auNoS.Ok (kListS te tb f0 f1 f2 f3 f4 f5 f6 f7 f8 f9 f10 f11 f12 f13 f14) e:=by
 refine ⟨⟨rLongS_ok (by rw [decide_eq_false (by omega)]),rulesOk_app rSameS_ok (rulesOk_app (lit_allS (X:=kSigChk f6) rfl ?_) (rulesOk_app (lit_allS (X:=kSigChk f7) rfl ?_) (rulesOk_app (lit_allS (X:=kSigAdd f1) rfl ?_) (lit_allS (X:=kSigMul f2) rfl ?_))))⟩,reqs_okS (l:=[]) h trivial,triv_okS,trivial⟩
 ·exact congrArg (fun x=>[x]) (bj_f hn)
 ·exact congrArg (fun x=>[x]) (bj_f hn)
 ·exact if_pos (.inl hn)
 ·exact if_pos hn
theorem nine {l l':List Int} (h:l'=l.take 9) {j:Nat} (hj:j<9):l'.getD j 0=l.getD j 0:=by
 rw [h,List.getD_eq_getElem?_getD,List.getD_eq_getElem?_getD,List.getElem?_take_of_lt hj]
theorem rSumS_ok {w:Int} (h:if w=0 then (sigAdd (e 0) (e 1) (e 2) (e 3) (e 4) (e 5) (e 6) (e 7) (e 8) (e 9) (e 10) (e 11) (e 12) (e 13) (e 14) (e 15) (e 16) (e 17)).getD 9 0=0 else sigAdd (e 0) (e 1) (e 2) (e 3) (e 4) (e 5) (e 6) (e 7) (e 8) (e 9) (e 10) (e 11) (e 12) (e 13) (e 14) (e 15) (e 16) (e 17)=errS w):RulesOk (kListS te tb f0 f1 f2 f3 f4 f5 f6 f7 f8 f9 f10 f11 f12 f13 f14) e (rSumS w):=by
 unfold rSumS
 by_cases hw:w=0
 ·rw [if_pos hw] at h
  rw [if_pos (beq_iff_eq.2 hw)]
  refine ⟨fun _=>h,rTo_ok (X:=kRSAdd f8) (X':=kSigAdd f1) rfl rfl fun _ j hj=>nine rfl hj⟩
 ·rw [if_neg hw] at h
  rw [if_neg (fun hc=>hw (beq_iff_eq.1 hc))]
  exact lit_allS (X:=kSigAdd f1) rfl h
theorem rTimS_ok {w:Int} (h:if w=0 then (sigMul (e 0) (e 1) (e 2) (e 3) (e 4) (e 5) (e 6) (e 7) (e 8) (e 18)).getD 9 0=0 else sigMul (e 0) (e 1) (e 2) (e 3) (e 4) (e 5) (e 6) (e 7) (e 8) (e 18)=errS w):RulesOk (kListS te tb f0 f1 f2 f3 f4 f5 f6 f7 f8 f9 f10 f11 f12 f13 f14) e (rTimS w):=by
 unfold rTimS
 by_cases hw:w=0
 ·rw [if_pos hw] at h
  rw [if_pos (beq_iff_eq.2 hw)]
  refine ⟨fun _=>h,rTo_ok (X:=kRSMul f9) (X':=kSigMul f2) rfl rfl fun _ j hj=>nine rfl hj⟩
 ·rw [if_neg hw] at h
  rw [if_neg (fun hc=>hw (beq_iff_eq.1 hc))]
  exact lit_allS (X:=kSigMul f2) rfl h
theorem rBytS_ok {z:Bool} (hz:z=decide (e 0=0)) (hok:sigOk (e 0) (e 1) (e 2) (e 3) (e 4) (e 5) (e 6) (e 7) (e 8)):RulesOk (kListS te tb f0 f1 f2 f3 f4 f5 f6 f7 f8 f9 f10 f11 f12 f13 f14) e (rBytS z):=by
 by_cases h0:e 0=0
 ·rw [hz,decide_eq_true h0]
  have hb:bytesR2 (e 1) (e 2) (e 3) (e 4) (e 5)=[enc (bytes2V (e 1) (e 2) (e 3) (e 4) (e 5)),0]:=bytesR2_t (sigOk_0 hok h0).2.1
  refine ⟨fun _=>?_,fun _=>?_,fun _=>?_,trivial⟩
  ·show b2i (e 0==0)=1
   rw [h0];rfl
  ·show enc (sigB (e 0) (e 1) (e 2) (e 3) (e 4) (e 5) (e 6) (e 7) (e 8))=(bytesR2 (e 1) (e 2) (e 3) (e 4) (e 5)).getD 0 0
   rw [hb,sigB,if_pos h0];rfl
  ·show (bytesR2 (e 1) (e 2) (e 3) (e 4) (e 5)).getD 1 0=0
   rw [hb];rfl
 ·rw [hz,decide_eq_false h0]
  refine ⟨fun _=>?_,fun _=>?_,fun _=>rfl,trivial⟩
  ·show b2i (e 0==0)=0
   rw [beq_eq_false_iff_ne.2 h0];rfl
  ·show enc (sigB (e 0) (e 1) (e 2) (e 3) (e 4) (e 5) (e 6) (e 7) (e 8))=enc (bytesL (e 6) (e 7) (e 8))
   rw [sigB,if_neg h0]
theorem auOkS_ok {z:Bool} {w v:Int} (h:((dec (e 20)).length:Int)<=200) (hz:z=decide (e 0=0)) (hok:sigOk (e 0) (e 1) (e 2) (e 3) (e 4) (e 5) (e 6) (e 7) (e 8))
  (hw:w=@ite Int (¬ sigOk (e 9) (e 10) (e 11) (e 12) (e 13) (e 14) (e 15) (e 16) (e 17)) (Classical.propDecidable _) 5 (if e 0≠e 9 then 2 else 0)) (hv:v=if ¬ e 18<rOf (e 0) then 2 else 0):(auOkS z w v).Ok (kListS te tb f0 f1 f2 f3 f4 f5 f6 f7 f8 f9 f10 f11 f12 f13 f14) e:=by
 have add:if w=0 then (sigOk (e 9) (e 10) (e 11) (e 12) (e 13) (e 14) (e 15) (e 16) (e 17)/\e 0=e 9) else sigAdd (e 0) (e 1) (e 2) (e 3) (e 4) (e 5) (e 6) (e 7) (e 8) (e 9) (e 10) (e 11) (e 12) (e 13) (e 14) (e 15) (e 16) (e 17)=errS w:=by
  by_cases hb:sigOk (e 9) (e 10) (e 11) (e 12) (e 13) (e 14) (e 15) (e 16) (e 17)
  ·by_cases hs:e 0=e 9
   ·rw [if_neg (fun hc=>hc hb),if_neg (fun hc=>hc hs)] at hw
    rw [if_pos hw];exact ⟨hb,hs⟩
   ·rw [if_neg (fun hc=>hc hb),if_pos hs] at hw
    rw [if_neg (by omega),hw]
    unfold sigAdd
    rw [if_neg (fun hc=>hc.elim (fun k=>k hok) (fun k=>k hb)),if_pos hs];rfl
  ·rw [if_pos hb] at hw
   rw [if_neg (by omega),hw]
   exact if_pos (.inr hb)
 have mul:if v=0 then e 18<rOf (e 0) else sigMul (e 0) (e 1) (e 2) (e 3) (e 4) (e 5) (e 6) (e 7) (e 8) (e 18)=errS v:=by
  by_cases hn:e 18<rOf (e 0)
  ·rw [if_neg (fun hc=>hc hn)] at hv
   rw [if_pos hv];exact hn
  ·rw [if_pos hn] at hv
   rw [if_neg (by omega),hv]
   unfold sigMul
   rw [if_neg (fun hc=>hc hok),if_pos hn];rfl
 refine ⟨⟨rLongS_ok (by rw [decide_eq_false (by omega)]),rulesOk_app rSameS_ok (rulesOk_app (lit_allS (X:=kSigChk f6) rfl ?_) (rulesOk_app (lit_allS (X:=kSigChk f7) rfl ?_) (rulesOk_app (rSumS_ok ?_) (rulesOk_app (rTimS_ok ?_) (rulesOk_app (rBytS_ok hz hok) ⟨fun _=>?_,fun _=>?_,?_⟩)))))⟩,reqs_okS h ⟨fun h0=>(sigOk_0 hok h0).2.1.1.1.2,(sigOk_s hok),?_⟩,triv_okS,⟨fun _=>congrArg (fun x=>[x]) (bj_t rfl),trivial⟩⟩
 ·exact congrArg (fun x=>[x]) (bj_t hok)
 ·exact congrArg (fun x=>[x]) (bj_t hok)
 ·by_cases hw0:w=0
  ·rw [if_pos hw0] at add ⊢
   unfold sigAdd
   rw [if_neg (fun hc=>hc.elim (fun k=>k hok) (fun k=>k add.1)),if_neg (fun hc=>hc add.2)]
   split
   ·obtain ⟨A,B,C,D,Z,hp⟩:=lowV2_l (sumJ R2 (rsV2 (e 1) (e 2) (e 3) (e 4) (e 5)) (rsV2 (e 10) (e 11) (e 12) (e 13) (e 14)))
    rw [hp];rfl
   ·rfl
  ·rw [if_neg hw0] at add ⊢;exact add
 ·by_cases hv0:v=0
  ·rw [if_pos hv0] at mul ⊢
   unfold sigMul
   rw [if_neg (fun hc=>hc hok),if_neg (fun hc=>hc mul)]
   split
   ·obtain ⟨A,B,C,D,Z,hp⟩:=lowV2_l (tmJ R2 (rsV2 (e 1) (e 2) (e 3) (e 4) (e 5)) 384 (e 18).toNat)
    rw [hp];rfl
   ·rfl
  ·rw [if_neg hv0] at mul ⊢;exact mul
 ·show bi (e 18<rOf (e 0))=(bitA (v==0)).ev e
  rw [bitA_ev,hv]
  by_cases hn:e 18<rOf (e 0)
  ·rw [if_neg (not_not_intro hn)];unfold bi;rw [if_pos hn];rfl
  ·rw [if_pos hn];unfold bi;rw [if_neg hn];rfl
 ·show bj (sigOk (e 9) (e 10) (e 11) (e 12) (e 13) (e 14) (e 15) (e 16) (e 17))=(bitA (w != 5)).ev e
  rw [bitA_ev,hw]
  by_cases hb:sigOk (e 9) (e 10) (e 11) (e 12) (e 13) (e 14) (e 15) (e 16) (e 17)
  ·rw [if_neg (not_not_intro hb),bj_t hb]
   by_cases hs:e 0=e 9
   ·rw [if_neg (fun hc=>hc hs)];rfl
   ·rw [if_pos hs];rfl
  ·rw [if_pos hb,bj_f hb];rfl
 ·by_cases hb:sigOk (e 9) (e 10) (e 11) (e 12) (e 13) (e 14) (e 15) (e 16) (e 17)
  ·rw [if_neg (not_not_intro hb)] at hw
   have hw5:¬ (w==5)=true:=fun hc=>by
    rw [beq_iff_eq] at hc
    by_cases hs:e 0=e 9
    ·rw [if_neg (fun hc=>hc hs)] at hw;omega
    ·rw [if_pos hs] at hw;omega
   rw [if_neg hw5]
   refine ⟨fun _=>?_,trivial⟩
   show b2i (e 0 != e 9)=(bitA (w==2)).ev e
   rw [bitA_ev,hw]
   by_cases hs:e 0=e 9
   ·rw [if_neg (fun hc=>hc hs),hs,show (e 9 != e 9)=false from bne_self_eq_false _];rfl
   ·rw [if_pos hs,show (e 0 != e 9)=true from bne_iff_ne.2 hs];rfl
  ·rw [if_pos hb] at hw
   rw [hw];trivial
 ·have r3:ReqsOk (kListS te tb f0 f1 f2 f3 f4 f5 f6 f7 f8 f9 f10 f11 f12 f13 f14) e (if z then [] else [(14,.var 0::vars 6 3)]):=by
   by_cases h0:e 0=0
   ·rw [hz,decide_eq_true h0];trivial
   ·rw [hz,decide_eq_false h0]
    obtain ⟨k1,k2,k3⟩:=sigOk_L hok h0
    exact ⟨⟨k1,k3.1⟩,trivial⟩
  have r2:ReqsOk (kListS te tb f0 f1 f2 f3 f4 f5 f6 f7 f8 f9 f10 f11 f12 f13 f14) e ((if v==0 then [(9,sn10)] else [])++(if z then [] else [(14,.var 0::vars 6 3)])):=by
   by_cases hv0:v=0
   ·rw [if_pos hv0] at mul
    rw [if_pos (beq_iff_eq.2 hv0)]
    exact ⟨⟨hok,mul⟩,r3⟩
   ·rw [if_neg (fun hc=>hv0 (beq_iff_eq.1 hc))];exact r3
  by_cases hw0:w=0
  ·rw [if_pos hw0] at add
   rw [if_pos (beq_iff_eq.2 hw0)]
   exact ⟨⟨hok,add.1,add.2⟩,r2⟩
  ·rw [if_neg (fun hc=>hw0 (beq_iff_eq.1 hc))];exact r2
theorem sigs_au (P:Au->Prop) (h1:P auLongS) (h2:P auNoS) (h3:∀ z w v,(w=0∨w=2∨w=5)->(v=0∨v=2)->P (auOkS z w v)) (e:Nat->Int):∃ c,(∀ e',(∀ i,i<21->e' i=e i)->c.Ok (kListS te tb f0 f1 f2 f3 f4 f5 f6 f7 f8 f9 f10 f11 f12 f13 f14) e')/\P c:=by
 have eqs:∀ e':Nat->Int,(∀ i,i<21->e' i=e i)->(e' 0=e 0/\e' 1=e 1/\e' 2=e 2/\e' 3=e 3/\e' 4=e 4/\e' 5=e 5/\e' 6=e 6/\e' 7=e 7/\e' 8=e 8)/\(e' 9=e 9/\e' 10=e 10/\e' 11=e 11/\e' 12=e 12/\e' 13=e 13/\e' 14=e 14/\e' 15=e 15/\e' 16=e 16/\e' 17=e 17)/\e' 18=e 18/\e' 20=e 20:=fun e' h=>⟨⟨h 0 (by decide),h 1 (by decide),h 2 (by decide),h 3 (by decide),h 4 (by decide),h 5 (by decide),h 6 (by decide),h 7 (by decide),h 8 (by decide)⟩,⟨h 9 (by decide),h 10 (by decide),h 11 (by decide),h 12 (by decide),h 13 (by decide),h 14 (by decide),h 15 (by decide),h 16 (by decide),h 17 (by decide)⟩,h 18 (by decide),h 20 (by decide)⟩
 by_cases hl:((dec (e 20)).length:Int) > 200
 ·exact ⟨auLongS,fun e' he=>auLongS_ok (by rw [he 20 (by decide)];exact hl),h1⟩
 by_cases hok:sigOk (e 0) (e 1) (e 2) (e 3) (e 4) (e 5) (e 6) (e 7) (e 8)
 ·refine ⟨auOkS (decide (e 0=0)) (@ite Int (¬ sigOk (e 9) (e 10) (e 11) (e 12) (e 13) (e 14) (e 15) (e 16) (e 17)) (Classical.propDecidable _) 5 (if e 0≠e 9 then 2 else 0)) (if ¬ e 18<rOf (e 0) then 2 else 0),fun e' he=>?_,h3 _ _ _ ?_ ?_⟩
  ·obtain ⟨⟨q0,q1,q2,q3,q4,q5,q6,q7,q8⟩,⟨q9,q10,q11,q12,q13,q14,q15,q16,q17⟩,q18,q20⟩:=eqs e' he
   refine auOkS_ok ?_ ?_ ?_ ?_ ?_
   ·rw [q20];omega
   ·rw [q0]
   ·rw [q0,q1,q2,q3,q4,q5,q6,q7,q8];exact hok
   ·rw [q0,q9,q10,q11,q12,q13,q14,q15,q16,q17]
   ·rw [q0,q18]
  ·split
   ·exact .inr (.inr rfl)
   ·split
    ·exact .inr (.inl rfl)
    ·exact .inl rfl
  ·split
   ·exact .inr rfl
   ·exact .inl rfl
 ·refine ⟨auNoS,fun e' he=>?_,h2⟩
  obtain ⟨⟨q0,q1,q2,q3,q4,q5,q6,q7,q8⟩,_,_,q20⟩:=eqs e' he
  exact auNoS_ok (by rw [q20];omega) (by rw [q0,q1,q2,q3,q4,q5,q6,q7,q8];exact hok)
end
end Go.Sx
namespace Go.Sx
open Go
def kSigs11 (f:FuncId):K:={fn:=f,ext:=false,ins:=[.agg lsSg,.agg lsSg,iN,iI,.lst (.int .u8)],outs:=[oB],pre:=fun _=>True,sem:=fun _=>[1] }
end Go.Sx
