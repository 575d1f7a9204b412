/- Part Go of the proof. -/
import Derived.Test.YtaablkpongjlkaaGreatGn
import Derived.Test.YtaablkpongjlkaaGreatGj
import Derived.Test.YtaablkpongjlkaaGreatGm
import Derived.Test.YtaablkpongjlkaaGreatGl
set_option linter.unusedVariables false
set_option linter.unusedSimpArgs false
namespace Go.Sx
open Go Go.RowKit
set_option maxRecDepth 100000
noncomputable def inC2 (c:Int):Int:=enc [toE (cq c 0),toE (cq c 1),toE (cq c 2),toE (cq c 3),cq c 4]
theorem inC2_d (c:Int):dec (inC2 c)=[toE (cq c 0),toE (cq c 1),toE (cq c 2),toE (cq c 3),cq c 4]:=dec_enc _
noncomputable def rsW (c:Int):J E2:=rsV2 (cq c 0) (cq c 1) (cq c 2) (cq c 3) (cq c 4)
def onW (c:Int):Prop:=onV2 (cq c 0) (cq c 1) (cq c 2) (cq c 3) (cq c 4)
def nnW (c:Int):Prop:=0<=cq c 0/\0<=cq c 1/\0<=cq c 2/\0<=cq c 3
theorem rsC_in {c:Int} (h:onW c) (k:nnW c):rsC (inC2 c)=rsW c:=by
 unfold rsC cq
 rw [inC2_d]
 exact rsE2_to k.1 k.2.1 k.2.2.1 k.2.2.2 h.1
noncomputable def gathV2 (l n:List Int):J E2:=((l.zip n)).foldl (fun acc p=>J.md R2 (sumJ R2 acc (tmJ R2 (rsW p.1) 384 p.2.toNat))) (oJ R2)
theorem fold_in2 (F:J E2->J E2->Int->J E2):∀ (l n:List Int) (a:J E2),(∀ c∈l,onW c/\nnW c)->((l.map inC2).zip n).foldl (fun acc p=>F acc (rsC p.1) p.2) a=(l.zip n).foldl (fun acc p=>F acc (rsW p.1) p.2) a
 | [],n,a,_=>rfl
 | c::l,[],a,_=>rfl
 | c::l,m::n,a,h=>by
  have hc:=h c (List.mem_cons_self ..)
  simp only [List.map_cons,List.zip_cons_cons,List.foldl_cons]
  rw [rsC_in hc.1 hc.2]
  exact fold_in2 F l n _ fun d hd=>h d (List.mem_cons_of_mem _ hd)
theorem gathV2_of {l n:List Int} (h:∀ c∈l,onW c/\nnW c):gathI2 (l.map inC2) n (l.map inC2).length=gathV2 l n:=by
 unfold gathI2 gathV2
 rw [List.take_of_length_le (by rw [List.length_zip];exact Nat.min_le_left _ _)]
 exact fold_in2 (fun acc P m=>J.md R2 (sumJ R2 acc (tmJ R2 P 384 m.toNat))) l n (oJ R2) h
noncomputable def kSum2 (f:FuncId):K:={fn:=f,ext:=false,ins:=[.lst plK2,.lst .num],outs:=[.agg lsQ2,oI],pre:=fun | [l,n]=>(dec l).length=(dec n).length/\(dec l).length<=1000/\∀ c∈dec l,onW c | _=>False,sem:=fun | [l,n]=>lowV2 (gathV2 (dec l) (dec n))++[0] | _=>[] }
def kMul2 (f:FuncId):K:={fn:=f,ext:=false,ins:=[.agg lsQ2,iN],outs:=[.agg lsQ2,oI],pre:=fun | [a,b,c,d,z,_]=>onV2 a b c d z | _=>False,sem:=fun | [a,b,c,d,z,n]=>lowV2 (tmJ R2 (rsV2 a b c d z) 384 n.toNat)++[0] | _=>[] }
def kAdd2 (f:FuncId):K:={fn:=f,ext:=false,ins:=[.agg lsQ2,.agg lsQ2],outs:=[.agg lsQ2,oI],pre:=fun | [a,b,c,d,z,a',b',c',d',z']=>onV2 a b c d z/\onV2 a' b' c' d' z' | _=>False,sem:=fun | [a,b,c,d,z,a',b',c',d',z']=>lowV2 (sumJ R2 (rsV2 a b c d z) (rsV2 a' b' c' d' z'))++[0] | _=>[] }
theorem plK2_nn {l:List Int} (h:plK2.hasL l) {c:Int} (hc:c∈l):nnW c:=by
 have h1:llHas [.num,.num,.num,.num,.bit] (dec c):=h.2 c hc
 unfold nnW cq
 match hd:dec c,h1 with
 | [a,b,d,f,g],h1=>exact ⟨h1.1.1,h1.2.1.1,h1.2.2.1.1,h1.2.2.2.1.1⟩
def t2Sum2:Tree:=(.lett 2 (.int .i64) (.llen (.var 0))
(.loop [.lit 0,.lit 0] [(.int .i64),(.lst (.tup .num [.num,.num,.num,.bit]))] 3
(.lett 5 .bit (.cmp .lss (.var 3) (.var 2))
(.split 5
(.lett 6 (.int .i64) (.llen (.var 0))
(.lett 7 .bit (.cmp .leq (.lit 0) (.var 3))
(.lett 8 .bit (.cmp .lss (.var 3) (.var 6))
(.nz (.var 7)
(.nz (.var 8)
(.lett 9 .any (.lget (.var 0) (.var 3))
(.lett 10 .num (.lget (.var 9) (.lit 0))
(.lett 11 .num (.lget (.var 9) (.lit 1))
(.lett 12 .num (.lget (.var 9) (.lit 2))
(.lett 13 .num (.lget (.var 9) (.lit 3))
(.lett 14 .bit (.lget (.var 9) (.lit 4))
(.lett 15 (.int .i64) (.llen (.var 0))
(.lett 16 (.int .i64) (.llen (.var 1))
(.lett 17 .bit (.cmp .eql (.var 15) (.var 16))
(.split 17
 (.req 0 [.var 10,.var 11,.var 12,.var 13,.var 14]
 (.lett 18 .bit (.app 0 0 [.var 10,.var 11,.var 12,.var 13,.var 14])
 (.lett 19 .bit (.not (.var 18))
 (.split 19
 (.ret [.lit 0,.lit 0,.lit 0,.lit 0,.lit 0,.lit 5])
 (.req 1 [.var 10,.var 11,.var 12,.var 13,.var 14]
 (.lett 20 .num (.app 1 0 [.var 10,.var 11,.var 12,.var 13,.var 14])
 (.lett 21 .num (.app 1 1 [.var 10,.var 11,.var 12,.var 13,.var 14])
 (.lett 22 .num (.app 1 2 [.var 10,.var 11,.var 12,.var 13,.var 14])
 (.lett 23 .num (.app 1 3 [.var 10,.var 11,.var 12,.var 13,.var 14])
 (.lett 24 .bit (.app 1 4 [.var 10,.var 11,.var 12,.var 13,.var 14])
 (.lett 25 .any (.lapp (.lit 0) [.var 20,.var 21,.var 22,.var 23,.var 24])
 (.lett 26 (.int .i64) (.llen (.var 4))
 (.lett 27 .bit (.cmp .lss (.var 26) (.lit 4294967296))
 (.nz (.var 27)
 (.lett 28 (.lst (.tup .num [.num,.num,.num,.bit])) (.lapp (.var 4) [.var 25])
 (.lett 29 (.int .i64) (.bin .add .i64 (.var 3) (.lit 1))
 (.back 0 [.var 29,.var 28])))))))))))))))))
 (.req 1 [.var 10,.var 11,.var 12,.var 13,.var 14]
 (.lett 18 .num (.app 1 0 [.var 10,.var 11,.var 12,.var 13,.var 14])
 (.lett 19 .num (.app 1 1 [.var 10,.var 11,.var 12,.var 13,.var 14])
 (.lett 20 .num (.app 1 2 [.var 10,.var 11,.var 12,.var 13,.var 14])
 (.lett 21 .num (.app 1 3 [.var 10,.var 11,.var 12,.var 13,.var 14])
 (.lett 22 .bit (.app 1 4 [.var 10,.var 11,.var 12,.var 13,.var 14])
 (.lett 23 .any (.lapp (.lit 0) [.var 18,.var 19,.var 20,.var 21,.var 22])
 (.lett 24 (.int .i64) (.llen (.var 4))
 (.lett 25 .bit (.cmp .lss (.var 24) (.lit 4294967296))
 (.nz (.var 25)
 (.lett 26 (.lst (.tup .num [.num,.num,.num,.bit])) (.lapp (.var 4) [.var 23])
 (.lett 27 (.int .i64) (.bin .add .i64 (.var 3) (.lit 1))
 (.back 0 [.var 27,.var 26]))))))))))))))))))))))))))))
(.req 2 []
(.lett 6 .num (.app 2 0 [])
(.lett 7 .num (.app 2 1 [])
(.lett 8 .num (.app 2 2 [])
(.lett 9 .num (.app 2 3 [])
(.req 3 [.var 6,.var 7,.var 8,.var 9,.var 4,.var 1]
(.lett 10 .num (.app 3 0 [.var 6,.var 7,.var 8,.var 9,.var 4,.var 1])
(.lett 11 .num (.app 3 1 [.var 6,.var 7,.var 8,.var 9,.var 4,.var 1])
(.lett 12 .num (.app 3 2 [.var 6,.var 7,.var 8,.var 9,.var 4,.var 1])
(.lett 13 .num (.app 3 3 [.var 6,.var 7,.var 8,.var 9,.var 4,.var 1])
(.lett 14 .bit (.app 3 4 [.var 6,.var 7,.var 8,.var 9,.var 4,.var 1])
(.lett 15 (.int .i64) (.app 3 5 [.var 6,.var 7,.var 8,.var 9,.var 4,.var 1])
(.req 4 [.var 10,.var 11,.var 12,.var 13,.var 14]
(.lett 16 .num (.app 4 0 [.var 10,.var 11,.var 12,.var 13,.var 14])
(.lett 17 .num (.app 4 1 [.var 10,.var 11,.var 12,.var 13,.var 14])
(.lett 18 .num (.app 4 2 [.var 10,.var 11,.var 12,.var 13,.var 14])
(.lett 19 .num (.app 4 3 [.var 10,.var 11,.var 12,.var 13,.var 14])
(.lett 20 .bit (.app 4 4 [.var 10,.var 11,.var 12,.var 13,.var 14])
(.ret [.var 16,.var 17,.var 18,.var 19,.var 20,.var 15])))))))))))))))))))))))
theorem law_pSum2 (o:Fo) (f1 f2 f3 f4 f5 f:FuncId) (e:Nat->Int) (hk:kkHas [.lst plK2,.lst .num] [e 0,e 1]) (hp:(kSum2 f).pre [e 0,e 1]):t2Sum2.says [kBelow2 f1,kIn2 f2,kSecond o f3,kGath2 o f4,kOut2 f5] ⟨fun ys=>ys=(kSum2 f).sem [e 0,e 1],[]⟩ e:=by
 obtain ⟨hlen,hll,hok⟩:(dec (e 0)).length=(dec (e 1)).length/\(dec (e 0)).length<=1000/\∀ c∈dec (e 0),onW c:=hp
 obtain ⟨l,d0⟩:∃ l,dec (e 0)=l:=⟨_,rfl⟩
 obtain ⟨n,d1⟩:∃ n,dec (e 1)=n:=⟨_,rfl⟩
 have hplk:plK2.hasL l:=by rw [<- d0];exact hk.1
 have hr:(kSum2 f).sem [e 0,e 1]=lowV2 (gathV2 l n)++[0]:=by rw [<- d0,<- d1];rfl
 rw [hr]
 rw [d0,d1] at hlen
 rw [d0] at hok hll
 have hon:∀ c∈l,onW c/\nnW c:=fun c hc=>⟨hok c hc,plK2_nn hplk hc⟩
 clear hr hk hok
 intro a2 _
 have v2:e 2=(l.length:Int):=by rw [<- d0];exact a2
 refine ⟨fun | [i,q]=>0<=i/\i<=l.length/\dec q=(l.take i.toNat).map inC2 | _=>False,fun | [i,_]=>(l.length-i).toNat | _=>0,⟨Int.le_refl _,(show (0:Int)<=l.length by omega),dec_zero⟩,fun e' he hkk hI=>?_⟩
 obtain ⟨i0,i1,d4⟩:0<=e' 3/\e' 3<=l.length/\dec (e' 4)=(l.take (e' 3).toNat).map inC2:=hI
 have v2:=(he 2 (by decide)).trans v2
 have d0:=(congrArg dec (he 0 (by decide))).trans d0
 have d1:=(congrArg dec (he 1 (by decide))).trans d1
 clear he hkk a2
 intro a5 _
 have b5:=c_lt a5
 simp only [ev_var] at b5
 refine ⟨fun hs=>?_,fun hs=>?_⟩
 ·have c5:e' 3<l.length:=by omega
  intro a6 _ a7 _ a8 _
  have v6:e' 6=(l.length:Int):=by rw [<- d0];exact a6
  refine ⟨bit_nz a7 i0,lt_nz a8 (by show e' 3<e' 6;omega),fun a9 _ a10 _ a11 _ a12 _ a13 _ a14 _ a15 _ a16 _ a17 _=>?_⟩
  have v9:e' 9=l.getD (e' 3).toNat 0:=by rw [<- d0];exact a9
  have hm:e' 9∈l:=by rw [v9,getD_lt (by omega)];exact List.getElem_mem _
  have v10:e' 10=cq (e' 9) 0:=a10
  have v11:e' 11=cq (e' 9) 1:=a11
  have v12:e' 12=cq (e' 9) 2:=a12
  have v13:e' 13=cq (e' 9) 3:=a13
  have v14:e' 14=cq (e' 9) 4:=a14
  have ho:=(hon _ hm).1
  have v15:e' 15=(l.length:Int):=by rw [<- d0];exact a15
  have v16:e' 16=(n.length:Int):=by rw [<- d1];exact a16
  have b17:=c_eq a17
  simp only [ev_var] at b17
  refine ⟨fun _=>?_,fun h=>by omega⟩
  refine ⟨trivial,fun a18 _ a19 _=>?_⟩
  have v18:e' 18=bj ((e' 10<bP/\e' 11<bP)/\(e' 12<bP/\e' 13<bP)):=a18
  rw [v10,v11,v12,v13,bj_t ho.1] at v18
  have b19:=c_not a19
  simp only [ev_var] at b19
  refine ⟨fun h=>by omega,fun _=>⟨trivial,fun a20 _ a21 _ a22 _ a23 _ a24 _ a25 _ a26 _ a27 _=>?_⟩⟩
  have v20:e' 20=toE (e' 10):=a20
  have v21:e' 21=toE (e' 11):=a21
  have v22:e' 22=toE (e' 12):=a22
  have v23:e' 23=toE (e' 13):=a23
  have v24:e' 24=e' 14:=a24
  have v25:e' 25=inC2 (e' 9):=by
   have h:e' 25=enc (dec 0++[e' 20,e' 21,e' 22,e' 23,e' 24]):=a25
   rw [h,dec_zero,v20,v21,v22,v23,v24,v10,v11,v12,v13,v14];rfl
  have v26:e' 26=((dec (e' 4)).length:Int):=a26
  rw [d4,List.length_map,List.length_take] at v26
  refine ⟨lt_nz a27 (by show e' 26<4294967296;omega),fun a28 _ a29 _=>?_⟩
  have d28:dec (e' 28)=dec (e' 4)++[e' 25]:=by
   have h:e' 28=enc (dec (e' 4)++[e' 25]):=a28
   rw [h,dec_enc]
  have v29:e' 29=e' 3+1:=by
   have h:e' 29=binE .add .i64 (e' 3) 1:=a29
   rw [h];simp only [binE,wr];omega
  show (0<=e' 29/\e' 29<=l.length/\dec (e' 28)=(l.take (e' 29).toNat).map inC2)/\(l.length-e' 29).toNat<(l.length-e' 3).toNat
  refine ⟨⟨by omega,by omega,?_⟩,by omega⟩
  rw [v29,show (e' 3+1).toNat=(e' 3).toNat+1 by omega,d28,d4,v25,List.take_succ_eq_append_getElem (by omega),List.map_append,v9,getD_lt (by omega)];rfl
 ·rw [show (e' 3).toNat=l.length by omega,List.take_of_length_le (Nat.le_refl _)] at d4
  refine ⟨trivial,fun a6 _ a7 _ a8 _ a9 _=>?_⟩
  have v6:e' 6=toE 1:=a6
  have v7:e' 7=0:=a7
  have v8:e' 8=toE 4:=a8
  have v9:e' 9=toE 4:=a9
  have hg:gathOk2 (l.map inC2):=fun c hc=>by
   obtain ⟨d,hd,rfl⟩:=List.mem_map.1 hc
   obtain ⟨h,k⟩:=hon d hd
   unfold cq
   rw [inC2_d]
   exact ⟨⟨⟨(toE_lt _).2,(toE_lt _).2⟩,(toE_lt _).2,(toE_lt _).2⟩,(onE2_to k.1 k.2.1 k.2.2.1 k.2.2.2 h.1).2 h⟩
  refine ⟨⟨⟨v6,v7⟩,⟨v8,v9⟩,(by show (dec (e' 4)).length=(dec (e' 1)).length;rw [d4,d1,List.length_map,hlen]),(by show gathOk2 (dec (e' 4));rw [d4];exact hg)⟩,fun a10 _ a11 _ a12 _ a13 _ a14 _ a15 _=>?_⟩
  have hs:(kGath2 o f4).sem [e' 6,e' 7,e' 8,e' 9,e' 4,e' 1]=lowE2 (gathV2 l n)++[0]:=by
   show lowE2 (gathI2 (dec (e' 4)) (dec (e' 1)) (dec (e' 4)).length)++[0]=_
   rw [d4,d1,gathV2_of hon]
  rw [lowE2_low] at hs
  rw [lowV2_low]
  generalize low2 (gathV2 l n)=G at hs ⊢
  generalize lowz (gathV2 l n)=g at hs ⊢
  have v10:e' 10=toE G.1.1:=by
   have h:e' 10=((kGath2 o f4).sem [e' 6,e' 7,e' 8,e' 9,e' 4,e' 1]).getD 0 0:=a10
   rw [h,hs];rfl
  have v11:e' 11=toE G.1.2:=by
   have h:e' 11=((kGath2 o f4).sem [e' 6,e' 7,e' 8,e' 9,e' 4,e' 1]).getD 1 0:=a11
   rw [h,hs];rfl
  have v12:e' 12=toE G.2.1:=by
   have h:e' 12=((kGath2 o f4).sem [e' 6,e' 7,e' 8,e' 9,e' 4,e' 1]).getD 2 0:=a12
   rw [h,hs];rfl
  have v13:e' 13=toE G.2.2:=by
   have h:e' 13=((kGath2 o f4).sem [e' 6,e' 7,e' 8,e' 9,e' 4,e' 1]).getD 3 0:=a13
   rw [h,hs];rfl
  have v14:e' 14=g:=by
   have h:e' 14=((kGath2 o f4).sem [e' 6,e' 7,e' 8,e' 9,e' 4,e' 1]).getD 4 0:=a14
   rw [h,hs];rfl
  have v15:e' 15=0:=by
   have h:e' 15=((kGath2 o f4).sem [e' 6,e' 7,e' 8,e' 9,e' 4,e' 1]).getD 5 0:=a15
   rw [h,hs];rfl
  refine ⟨⟨⟨E_lt v10,E_lt v11⟩,E_lt v12,E_lt v13⟩,fun a16 _ a17 _ a18 _ a19 _ a20 _=>?_⟩
  show [e' 16,e' 17,e' 18,e' 19,e' 20,e' 15]=_
  rw [show e' 16=ofE (e' 10) from a16,show e' 17=ofE (e' 11) from a17,show e' 18=ofE (e' 12) from a18,show e' 19=ofE (e' 13) from a19,show e' 20=e' 14 from a20,v10,v11,v12,v13,v14,v15,ofE_toE,ofE_toE,ofE_toE,ofE_toE];rfl
theorem isz_o2:R2.isz (oJ R2).z=true:=isz3.2 ⟨rfl,rfl⟩
theorem sum_o2 (Q:J E2):sumJ R2 (oJ R2) Q=Q:=by
 rw [sumJ_eq,if_pos isz_o2]
theorem tm2_1 (P:J E2):JS (tmJ R2 P 384 1) P:=by
 have e1:∀ k n,tmJ R2 P (k+1) n=if n=0 then oJ R2 else (if n%2=1 then J.md R2 (sumJ R2 (J.md R2 (dblJ R2 (tmJ R2 P k (n/2)))) P) else J.md R2 (dblJ R2 (tmJ R2 P k (n/2)))):=fun _ _=>rfl
 have z0:∀ k,tmJ R2 P k 0=oJ R2:=fun k=>by
  cases k with
  | zero=>rfl
  | succ k=>rw [e1,if_pos rfl]
 rw [show (384:Nat)=383+1 from rfl,e1,if_neg (by decide),if_pos rfl,show 1/2=0 from rfl,z0]
 refine (JS_md _).trans ?_
 rw [sumJ_eq,if_pos]
 ·exact JS.refl _
 ·rw [JS_isz (JS_md (dblJ R2 (oJ R2)))]
  exact isz3.2 ⟨by decide,by decide⟩
def t2Mul2:Tree:=(.lett 6 .any (.lapp (.lit 0) [.var 0,.var 1,.var 2,.var 3,.var 4])
(.lett 7 (.lst (.tup .num [.num,.num,.num,.bit])) (.lapp (.lit 0) [.var 6])
(.lett 8 (.lst .num) (.lapp (.lit 0) [.var 5])
(.req 0 [.var 7,.var 8]
(.lett 9 .num (.app 0 0 [.var 7,.var 8])
(.lett 10 .num (.app 0 1 [.var 7,.var 8])
(.lett 11 .num (.app 0 2 [.var 7,.var 8])
(.lett 12 .num (.app 0 3 [.var 7,.var 8])
(.lett 13 .bit (.app 0 4 [.var 7,.var 8])
(.lett 14 (.int .i64) (.app 0 5 [.var 7,.var 8])
(.ret [.var 9,.var 10,.var 11,.var 12,.var 13,.var 14])))))))))))
theorem law_pMul2 (f1 f:FuncId) (e:Nat->Int) (hp:(kMul2 f).pre [e 0,e 1,e 2,e 3,e 4,e 5]):t2Mul2.says [kSum2 f1] ⟨fun ys=>ys=(kMul2 f).sem [e 0,e 1,e 2,e 3,e 4,e 5],[]⟩ e:=by
 have hon:onV2 (e 0) (e 1) (e 2) (e 3) (e 4):=hp
 intro a6 _ a7 _ a8 _
 have d6:dec (e 6)=[e 0,e 1,e 2,e 3,e 4]:=by
  have h:e 6=enc (dec 0++[e 0,e 1,e 2,e 3,e 4]):=a6
  rw [h,dec_enc,dec_zero];rfl
 have d7:dec (e 7)=[e 6]:=by
  have h:e 7=enc (dec 0++[e 6]):=a7
  rw [h,dec_enc,dec_zero];rfl
 have d8:dec (e 8)=[e 5]:=by
  have h:e 8=enc (dec 0++[e 5]):=a8
  rw [h,dec_enc,dec_zero];rfl
 have hw:rsW (e 6)=rsV2 (e 0) (e 1) (e 2) (e 3) (e 4):=by unfold rsW cq;rw [d6];rfl
 have how:onW (e 6):=by unfold onW cq;rw [d6];exact hon
 refine ⟨⟨(by show (dec (e 7)).length=(dec (e 8)).length;rw [d7,d8];rfl),(by show (dec (e 7)).length<=1000;rw [d7];simp),(by
  show ∀ c∈dec (e 7),_
  rw [d7]
  intro c hc
  rw [List.mem_singleton.1 hc];exact how)⟩,fun a9 _ a10 _ a11 _ a12 _ a13 _ a14 _=>?_⟩
 have hs:(kSum2 f1).sem [e 7,e 8]=lowV2 (tmJ R2 (rsV2 (e 0) (e 1) (e 2) (e 3) (e 4)) 384 (e 5).toNat)++[0]:=by
  show lowV2 (gathV2 (dec (e 7)) (dec (e 8)))++[0]=_
  rw [d7,d8]
  show lowV2 (J.md R2 (sumJ R2 (oJ R2) (tmJ R2 (rsW (e 6)) 384 (e 5).toNat)))++[0]=_
  rw [hw,sum_o2,lowV2_js (JS_md _)]
 show [e 9,e 10,e 11,e 12,e 13,e 14]=(kMul2 f).sem [e 0,e 1,e 2,e 3,e 4,e 5]
 rw [show e 9=((kSum2 f1).sem [e 7,e 8]).getD 0 0 from a9,show e 10=((kSum2 f1).sem [e 7,e 8]).getD 1 0 from a10,show e 11=((kSum2 f1).sem [e 7,e 8]).getD 2 0 from a11,show e 12=((kSum2 f1).sem [e 7,e 8]).getD 3 0 from a12,show e 13=((kSum2 f1).sem [e 7,e 8]).getD 4 0 from a13,show e 14=((kSum2 f1).sem [e 7,e 8]).getD 5 0 from a14,hs]
 show _=lowV2 (tmJ R2 (rsV2 (e 0) (e 1) (e 2) (e 3) (e 4)) 384 (e 5).toNat)++[0]
 rw [lowV2_low];rfl
def t2Add2:Tree:=(.req 1 [.lit 1]
(.lett 154 .num (.app 1 0 [.lit 1])
(.req 1 [.lit 1]
(.lett 202 .num (.app 1 0 [.lit 1])
(.lett 298 .any (.lapp (.lit 0) [.var 0,.var 1,.var 2,.var 3,.var 4])
(.lett 299 .any (.lapp (.lit 0) [.var 5,.var 6,.var 7,.var 8,.var 9])
(.lett 300 (.lst (.tup .num [.num,.num,.num,.bit])) (.lapp (.lit 0) [.var 298,.var 299])
(.lett 301 (.lst .num) (.lapp (.lit 0) [.var 154,.var 202])
(.req 0 [.var 300,.var 301]
(.lett 302 .num (.app 0 0 [.var 300,.var 301])
(.lett 303 .num (.app 0 1 [.var 300,.var 301])
(.lett 304 .num (.app 0 2 [.var 300,.var 301])
(.lett 305 .num (.app 0 3 [.var 300,.var 301])
(.lett 306 .bit (.app 0 4 [.var 300,.var 301])
(.lett 307 (.int .i64) (.app 0 5 [.var 300,.var 301])
(.ret [.var 302,.var 303,.var 304,.var 305,.var 306,.var 307]))))))))))))))))
theorem law_pAdd2 (f1 f2 f:FuncId) (e:Nat->Int) (hp:(kAdd2 f).pre [e 0,e 1,e 2,e 3,e 4,e 5,e 6,e 7,e 8,e 9]):t2Add2.says [kSum2 f1,kOf f2] ⟨fun ys=>ys=(kAdd2 f).sem [e 0,e 1,e 2,e 3,e 4,e 5,e 6,e 7,e 8,e 9],[]⟩ e:=by
 obtain ⟨hon,hon'⟩:onV2 (e 0) (e 1) (e 2) (e 3) (e 4)/\onV2 (e 5) (e 6) (e 7) (e 8) (e 9):=hp
 refine ⟨trivial,fun a154 _=>⟨trivial,fun a202 _ a298 _ a299 _ a300 _ a301 _=>?_⟩⟩
 have v154:e 154=1:=a154
 have v202:e 202=1:=a202
 have d298:dec (e 298)=[e 0,e 1,e 2,e 3,e 4]:=by
  have h:e 298=enc (dec 0++[e 0,e 1,e 2,e 3,e 4]):=a298
  rw [h,dec_enc,dec_zero];rfl
 have d299:dec (e 299)=[e 5,e 6,e 7,e 8,e 9]:=by
  have h:e 299=enc (dec 0++[e 5,e 6,e 7,e 8,e 9]):=a299
  rw [h,dec_enc,dec_zero];rfl
 have d300:dec (e 300)=[e 298,e 299]:=by
  have h:e 300=enc (dec 0++[e 298,e 299]):=a300
  rw [h,dec_enc,dec_zero];rfl
 have d301:dec (e 301)=[e 154,e 202]:=by
  have h:e 301=enc (dec 0++[e 154,e 202]):=a301
  rw [h,dec_enc,dec_zero];rfl
 rw [v154,v202] at d301
 have w1:rsW (e 298)=rsV2 (e 0) (e 1) (e 2) (e 3) (e 4):=by unfold rsW cq;rw [d298];rfl
 have w2:rsW (e 299)=rsV2 (e 5) (e 6) (e 7) (e 8) (e 9):=by unfold rsW cq;rw [d299];rfl
 have o1:onW (e 298):=by unfold onW cq;rw [d298];exact hon
 have o2:onW (e 299):=by unfold onW cq;rw [d299];exact hon'
 refine ⟨⟨(by show (dec (e 300)).length=(dec (e 301)).length;rw [d300,d301];rfl),(by show (dec (e 300)).length<=1000;rw [d300];simp),(by
  show ∀ c∈dec (e 300),_
  rw [d300]
  intro c hc
  rcases List.mem_cons.1 hc with rfl | hc
  ·exact o1
  ·rw [List.mem_singleton.1 hc];exact o2)⟩,fun a0 _ a1 _ a2 _ a3 _ a4 _ a5 _=>?_⟩
 have hs:(kSum2 f1).sem [e 300,e 301]=lowV2 (sumJ R2 (rsV2 (e 0) (e 1) (e 2) (e 3) (e 4)) (rsV2 (e 5) (e 6) (e 7) (e 8) (e 9)))++[0]:=by
  show lowV2 (gathV2 (dec (e 300)) (dec (e 301)))++[0]=_
  rw [d300,d301]
  show lowV2 (J.md R2 (sumJ R2 (J.md R2 (sumJ R2 (oJ R2) (tmJ R2 (rsW (e 298)) 384 1))) (tmJ R2 (rsW (e 299)) 384 1)))++[0]=_
  rw [w1,w2,sum_o2,lowV2_js ((JS_md _).trans (JS_sum ((JS_md _).trans (tm2_1 _)) (tm2_1 _)))]
 show [e 302,e 303,e 304,e 305,e 306,e 307]=(kAdd2 f).sem [e 0,e 1,e 2,e 3,e 4,e 5,e 6,e 7,e 8,e 9]
 rw [show e 302=((kSum2 f1).sem [e 300,e 301]).getD 0 0 from a0,show e 303=((kSum2 f1).sem [e 300,e 301]).getD 1 0 from a1,show e 304=((kSum2 f1).sem [e 300,e 301]).getD 2 0 from a2,show e 305=((kSum2 f1).sem [e 300,e 301]).getD 3 0 from a3,show e 306=((kSum2 f1).sem [e 300,e 301]).getD 4 0 from a4,show e 307=((kSum2 f1).sem [e 300,e 301]).getD 5 0 from a5,hs]
 show _=lowV2 (sumJ R2 (rsV2 (e 0) (e 1) (e 2) (e 3) (e 4)) (rsV2 (e 5) (e 6) (e 7) (e 8) (e 9)))++[0]
 rw [lowV2_low];rfl
theorem ferm {a:Int} (h:¬ a%bP=0):a^(bP-1).toNat%bP=1:=by
 have hf:=invB_ok h
 unfold invB at hf
 rw [show (bP-1).toNat=(bP-2).toNat+1 by unfold bP;decide]
 generalize (bP-2).toNat=n at hf ⊢
 rw [Int.pow_succ,Int.mul_comm];exact hf
theorem neg_odd (x:Int) (k:Nat):(-x)^(2*k+1)=-(x^(2*k+1)):=by
 rw [Int.pow_succ,Int.pow_succ,Int.pow_mul,Int.pow_mul,show (-x)^2=x^2 by grind,Int.mul_neg]
theorem half_odd:(bP-1).toNat=2*(2*((bP-3)/4).toNat+1):=by unfold bP;decide
theorem no_i {a b:Int} (h:(a*a+b*b)%bP=0):a%bP=0/\b%bP=0:=by
 have h1:(a*a)%bP=(-(b*b))%bP:=by
  have:=mdE_sub (p:=bP) (a:=a*a+b*b) (A:=0) (by rw [h];rfl) (show (b*b)%bP=(b*b)%bP from rfl)
  rwa [Int.add_sub_cancel,Int.zero_sub] at this
 by_cases ha:a%bP=0
 ·refine ⟨ha,?_⟩
  by_cases hb:b%bP=0
  ·exact hb
  ·have h2:(b*b)%bP=0:=by
    have h3:(a*a)%bP=0:=md0_mul _ ha
    have:=mdE_sub (p:=bP) (a:=a*a+b*b) (A:=0) (by rw [h];rfl) (show (a*a)%bP=0%bP by rw [h3];rfl)
    rw [show a*a+b*b-a*a=b*b by omega] at this
    exact this
   exact mulB_z h2 hb
 ·exfalso
  have hb:¬ b%bP=0:=fun hb=>ha (by
   have h3:(b*b)%bP=0:=md0_mul _ hb
   have h4:(a*a)%bP=0:=by
    have:=mdE_sub (p:=bP) (a:=a*a+b*b) (A:=0) (by rw [h];rfl) (show (b*b)%bP=0%bP by rw [h3];rfl)
    rw [Int.add_sub_cancel] at this
    exact this
   exact mulB_z h4 ha)
  have fa:=ferm ha
  have fb:=ferm hb
  rw [half_odd] at fa fb
  generalize ((bP-3)/4).toNat=k at fa fb
  have h2:=mdE_pow h1 (2*k+1)
  rw [neg_odd] at h2
  have e:∀ x:Int,(x*x)^(2*k+1)=x^(2*(2*k+1)):=fun x=>by
   rw [Int.pow_mul,show x^2=x*x by grind]
  rw [e,e,fa] at h2
  have h3:(-(b^(2*(2*k+1))))%bP=(-1)%bP:=mdE_neg (by rw [fb];rfl)
  rw [h3] at h2
  exact absurd h2 (by decide)
theorem nrm_z {A:E2} (h:¬ R2.isz A=true):¬ (A.1*A.1+A.2*A.2)%bP=0:=fun hc=>h (isz3.2 (no_i hc))
theorem E_inv {A:E2} (h:¬ R2.isz A=true):S2 (R2.mul A (inv2 A)) (1,0):=by
 have hi:=invB_ok (nrm_z h)
 have e1:(R2.mul A (inv2 A)).1=(A.1*A.1+A.2*A.2)*invB (A.1*A.1+A.2*A.2):=by
  show A.1*(A.1*nrm A.1 A.2)-A.2 * -(A.2*nrm A.1 A.2)=_
  rw [show nrm A.1 A.2=invB (A.1*A.1+A.2*A.2) from rfl]
  generalize invB (A.1*A.1+A.2*A.2)=n
  grind
 have e2:(R2.mul A (inv2 A)).2=0:=by
  show A.1 * -(A.2*nrm A.1 A.2)+A.2*(A.1*nrm A.1 A.2)=0
  generalize nrm A.1 A.2=n
  grind
 exact ⟨by rw [e1,hi];rfl,by rw [e2]⟩
theorem one_mul2 (a:E2):R2.mul (1,0) a=a:=by
 show (1*a.1-0*a.2,1*a.2+0*a.1)=a
 rw [Int.one_mul,Int.zero_mul,Int.one_mul,Int.zero_mul,Int.sub_zero,Int.add_zero]
theorem mul_one2 (a:E2):R2.mul a (1,0)=a:=by
 show (a.1*1-a.2*0,a.1*0+a.2*1)=a
 rw [Int.mul_one,Int.mul_zero,Int.mul_one,Int.mul_zero,Int.sub_zero,Int.zero_add]
theorem S2_trans {a b c:E2} (h:S2 a b) (k:S2 b c):S2 a c:=⟨h.1.trans k.1,h.2.trans k.2⟩
theorem S2_symm {a b:E2} (h:S2 a b):S2 b a:=⟨h.1.symm,h.2.symm⟩
theorem S2_eq {a b:E2} (h:a=b):S2 a b:=by rw [h];exact S2_refl _
theorem mul2_z {x y:E2} (h:R2.isz (R2.mul x y)=true) (hx:¬ R2.isz x=true):R2.isz y=true:=by
 have hi:=E_inv hx
 have h1:S2 (R2.mul y (R2.mul x (inv2 x))) y:=S2_trans (S2R_mul (S2_refl y) hi) (S2_eq (mul_one2 y))
 rw [<- S2_isz h1]
 have e:R2.mul y (R2.mul x (inv2 x))=R2.mul (R2.mul x y) (inv2 x):=by
  obtain ⟨x1,x2⟩:=x
  obtain ⟨y1,y2⟩:=y
  generalize inv2 (x1,x2)=i
  obtain ⟨i1,i2⟩:=i
  simp only [R2]
  refine Prod.ext ?_ ?_
  ·show y1*(x1*i1-x2*i2)-y2*(x1*i2+x2*i1)=(x1*y1-x2*y2)*i1-(x1*y2+x2*y1)*i2
   grind
  ·show y1*(x1*i2+x2*i1)+y2*(x1*i1-x2*i2)=(x1*y1-x2*y2)*i2+(x1*y2+x2*y1)*i1
   grind
 rw [e]
 exact R2_zmul h
def affX2 (m x x':E2):E2:=R2.sub (R2.sub (R2.mul m m) x) x'
def affY2 (m x y X:E2):E2:=R2.sub (R2.mul m (R2.sub x X)) y
def t3 (x:E2):E2:=R2.add (R2.add (R2.mul x x) (R2.mul x x)) (R2.mul x x)
theorem e2_dx (x y i:E2):R2.mul (dblJ R2 ⟨x,y,(1,0)⟩).x (R2.mul i i)=R2.sub (R2.mul (R2.mul (t3 x) i) (R2.mul (t3 x) i)) (R2.add (R2.mul x (R2.mul (R2.mul (R2.add y y) i) (R2.mul (R2.add y y) i))) (R2.mul x (R2.mul (R2.mul (R2.add y y) i) (R2.mul (R2.add y y) i)))):=by
 obtain ⟨x1,x2⟩:=x
 obtain ⟨y1,y2⟩:=y
 obtain ⟨i1,i2⟩:=i
 simp only [dblJ,t3,R2]
 refine Prod.ext ?_ ?_
 ·simp only []
  grind
 ·simp only []
  grind
theorem e2_dy (x y i:E2):R2.mul (dblJ R2 ⟨x,y,(1,0)⟩).y (R2.mul (R2.mul i i) i)=R2.sub (R2.mul (R2.mul (t3 x) i) (R2.sub (R2.mul x (R2.mul (R2.mul (R2.add y y) i) (R2.mul (R2.add y y) i))) (R2.mul (dblJ R2 ⟨x,y,(1,0)⟩).x (R2.mul i i)))) (R2.mul y (R2.mul (R2.mul (R2.mul (R2.add y y) i) (R2.mul (R2.add y y) i)) (R2.mul (R2.add y y) i))):=by
 have h:(dblJ R2 ⟨x,y,(1,0)⟩).y=R2.sub (R2.mul (t3 x) (R2.sub (R2.add (R2.add (R2.mul x (R2.mul y y)) (R2.mul x (R2.mul y y))) (R2.add (R2.mul x (R2.mul y y)) (R2.mul x (R2.mul y y)))) (dblJ R2 ⟨x,y,(1,0)⟩).x)) (R2.add (R2.add (R2.add (R2.mul (R2.mul y y) (R2.mul y y)) (R2.mul (R2.mul y y) (R2.mul y y))) (R2.add (R2.mul (R2.mul y y) (R2.mul y y)) (R2.mul (R2.mul y y) (R2.mul y y)))) (R2.add (R2.add (R2.mul (R2.mul y y) (R2.mul y y)) (R2.mul (R2.mul y y) (R2.mul y y))) (R2.add (R2.mul (R2.mul y y) (R2.mul y y)) (R2.mul (R2.mul y y) (R2.mul y y))))):=rfl
 rw [h]
 generalize (dblJ R2 ⟨x,y,(1,0)⟩).x=X
 obtain ⟨x1,x2⟩:=x
 obtain ⟨y1,y2⟩:=y
 obtain ⟨i1,i2⟩:=i
 obtain ⟨X1,X2⟩:=X
 simp only [t3,R2]
 refine Prod.ext ?_ ?_
 ·simp only []
  grind
 ·simp only []
  grind
theorem dz2 (x y:E2):(dblJ R2 ⟨x,y,(1,0)⟩).z=R2.add y y:=by
 show R2.add (R2.mul y (1,0)) (R2.mul y (1,0))=_
 rw [mul_one2]
theorem low2_n {P:J E2} (h:¬ R2.isz P.z=true):low2 P=(R2.mul P.x (R2.mul (inv2 P.z) (inv2 P.z)),R2.mul P.y (R2.mul (R2.mul (inv2 P.z) (inv2 P.z)) (inv2 P.z))):=if_neg (fun hc=>h (isz3.2 hc))
theorem lowz_n {P:J E2} (h:¬ R2.isz P.z=true):lowz P=0:=if_neg (fun hc=>h (isz3.2 hc))
theorem lowV2_of {P:J E2} {x y:E2} (h:¬ R2.isz P.z=true) (hx:S2 (R2.mul P.x (R2.mul (inv2 P.z) (inv2 P.z))) x) (hy:S2 (R2.mul P.y (R2.mul (R2.mul (inv2 P.z) (inv2 P.z)) (inv2 P.z))) y):lowV2 P=[x.1%bP,x.2%bP,y.1%bP,y.2%bP,0]:=by
 rw [lowV2_low,low2_n h,lowz_n h]
 simp only []
 rw [hx.1,hx.2,hy.1,hy.2]
theorem u_sq {u:E2} (h:S2 u (1,0)) (x:E2):S2 (R2.mul x (R2.mul u u)) x:=S2_trans (S2R_mul (S2_refl x) (S2R_mul h h)) (S2_eq (by rw [one_mul2,mul_one2]))
theorem u_cu {u:E2} (h:S2 u (1,0)) (x:E2):S2 (R2.mul x (R2.mul (R2.mul u u) u)) x:=S2_trans (S2R_mul (S2_refl x) (S2R_mul (S2R_mul h h) h)) (S2_eq (by rw [one_mul2,one_mul2,mul_one2]))
theorem sub_two (a x:E2):R2.sub a (R2.add x x)=R2.sub (R2.sub a x) x:=by
 refine Prod.ext ?_ ?_
 ·show a.1-(x.1+x.1)=a.1-x.1-x.1;omega
 ·show a.2-(x.2+x.2)=a.2-x.2-x.2;omega
theorem aff_dbl2 {x y:E2} (hy:¬ R2.isz (R2.add y y)=true):lowV2 (dblJ R2 ⟨x,y,(1,0)⟩)=[(affX2 (R2.mul (t3 x) (inv2 (R2.add y y))) x x).1%bP,(affX2 (R2.mul (t3 x) (inv2 (R2.add y y))) x x).2%bP,(affY2 (R2.mul (t3 x) (inv2 (R2.add y y))) x y (affX2 (R2.mul (t3 x) (inv2 (R2.add y y))) x x)).1%bP,(affY2 (R2.mul (t3 x) (inv2 (R2.add y y))) x y (affX2 (R2.mul (t3 x) (inv2 (R2.add y y))) x x)).2%bP,0]:=by
 have hu:=E_inv hy
 have hX:S2 (R2.mul (dblJ R2 ⟨x,y,(1,0)⟩).x (R2.mul (inv2 (R2.add y y)) (inv2 (R2.add y y)))) (affX2 (R2.mul (t3 x) (inv2 (R2.add y y))) x x):=by
  rw [e2_dx]
  refine S2_trans (S2R_sub (S2_refl _) (S2R_add (u_sq hu x) (u_sq hu x))) (S2_eq ?_)
  rw [sub_two];rfl
 refine lowV2_of (by rw [dz2];exact hy) (by rw [dz2];exact hX) ?_
 rw [dz2,e2_dy]
 exact S2R_sub (S2R_mul (S2_refl _) (S2R_sub (u_sq hu x) hX)) (u_cu hu y)
theorem e2_ax (x y d k i:E2):R2.mul (R2.sub (R2.sub (R2.mul k k) (R2.mul (R2.mul d d) d)) (R2.add (R2.mul x (R2.mul d d)) (R2.mul x (R2.mul d d)))) (R2.mul i i)=R2.sub (R2.sub (R2.mul (R2.mul k i) (R2.mul k i)) (R2.mul d (R2.mul (R2.mul d i) (R2.mul d i)))) (R2.add (R2.mul x (R2.mul (R2.mul d i) (R2.mul d i))) (R2.mul x (R2.mul (R2.mul d i) (R2.mul d i)))):=by
 obtain ⟨x1,x2⟩:=x
 obtain ⟨d1,d2⟩:=d
 obtain ⟨k1,k2⟩:=k
 obtain ⟨i1,i2⟩:=i
 simp only [R2]
 refine Prod.ext ?_ ?_
 ·simp only []
  grind
 ·simp only []
  grind
theorem e2_ay (x y d k i X:E2):R2.mul (R2.sub (R2.mul k (R2.sub (R2.mul x (R2.mul d d)) X)) (R2.mul y (R2.mul (R2.mul d d) d))) (R2.mul (R2.mul i i) i)=R2.sub (R2.mul (R2.mul k i) (R2.sub (R2.mul x (R2.mul (R2.mul d i) (R2.mul d i))) (R2.mul X (R2.mul i i)))) (R2.mul y (R2.mul (R2.mul (R2.mul d i) (R2.mul d i)) (R2.mul d i))):=by
 obtain ⟨x1,x2⟩:=x
 obtain ⟨y1,y2⟩:=y
 obtain ⟨d1,d2⟩:=d
 obtain ⟨k1,k2⟩:=k
 obtain ⟨i1,i2⟩:=i
 obtain ⟨X1,X2⟩:=X
 simp only [R2]
 refine Prod.ext ?_ ?_
 ·simp only []
  grind
 ·simp only []
  grind
theorem add2_eq (x y x' y':E2):addJ R2 ⟨x,y,(1,0)⟩ ⟨x',y',(1,0)⟩=⟨R2.sub (R2.sub (R2.mul (R2.sub y' y) (R2.sub y' y)) (R2.mul (R2.mul (R2.sub x' x) (R2.sub x' x)) (R2.sub x' x))) (R2.add (R2.mul x (R2.mul (R2.sub x' x) (R2.sub x' x))) (R2.mul x (R2.mul (R2.sub x' x) (R2.sub x' x)))),R2.sub (R2.mul (R2.sub y' y) (R2.sub (R2.mul x (R2.mul (R2.sub x' x) (R2.sub x' x))) (R2.sub (R2.sub (R2.mul (R2.sub y' y) (R2.sub y' y)) (R2.mul (R2.mul (R2.sub x' x) (R2.sub x' x)) (R2.sub x' x))) (R2.add (R2.mul x (R2.mul (R2.sub x' x) (R2.sub x' x))) (R2.mul x (R2.mul (R2.sub x' x) (R2.sub x' x))))))) (R2.mul y (R2.mul (R2.mul (R2.sub x' x) (R2.sub x' x)) (R2.sub x' x))),R2.sub x' x⟩:=by
 simp only [addJ,mul_one2]
theorem sub_dd {a x x' d:E2} (h:d=R2.sub x' x):R2.sub (R2.sub a d) (R2.add x x)=R2.sub (R2.sub a x) x':=by
 subst h
 refine Prod.ext ?_ ?_
 ·show a.1-(x'.1-x.1)-(x.1+x.1)=a.1-x.1-x'.1;omega
 ·show a.2-(x'.2-x.2)-(x.2+x.2)=a.2-x.2-x'.2;omega
theorem aff_add2 {x y x' y':E2} (hh:¬ R2.isz (R2.sub x' x)=true):lowV2 (addJ R2 ⟨x,y,(1,0)⟩ ⟨x',y',(1,0)⟩)=[(affX2 (R2.mul (R2.sub y' y) (inv2 (R2.sub x' x))) x x').1%bP,(affX2 (R2.mul (R2.sub y' y) (inv2 (R2.sub x' x))) x x').2%bP,(affY2 (R2.mul (R2.sub y' y) (inv2 (R2.sub x' x))) x y (affX2 (R2.mul (R2.sub y' y) (inv2 (R2.sub x' x))) x x')).1%bP,(affY2 (R2.mul (R2.sub y' y) (inv2 (R2.sub x' x))) x y (affX2 (R2.mul (R2.sub y' y) (inv2 (R2.sub x' x))) x x')).2%bP,0]:=by
 have hu:=E_inv hh
 rw [add2_eq]
 have hX:S2 (R2.mul (R2.sub (R2.sub (R2.mul (R2.sub y' y) (R2.sub y' y)) (R2.mul (R2.mul (R2.sub x' x) (R2.sub x' x)) (R2.sub x' x))) (R2.add (R2.mul x (R2.mul (R2.sub x' x) (R2.sub x' x))) (R2.mul x (R2.mul (R2.sub x' x) (R2.sub x' x))))) (R2.mul (inv2 (R2.sub x' x)) (inv2 (R2.sub x' x)))) (affX2 (R2.mul (R2.sub y' y) (inv2 (R2.sub x' x))) x x'):=by
  rw [e2_ax x y]
  refine S2_trans (S2R_sub (S2R_sub (S2_refl _) (u_sq hu _)) (S2R_add (u_sq hu x) (u_sq hu x))) (S2_eq ?_)
  exact sub_dd rfl
 refine lowV2_of hh hX ?_
 simp only []
 rw [e2_ay]
 exact S2R_sub (S2R_mul (S2_refl _) (S2R_sub (u_sq hu x) hX)) (u_cu hu y)
def cn (a:E2):Prop:=(0<=a.1/\a.1<bP)/\(0<=a.2/\a.2<bP)
def ng2 (a:E2):E2:=((-a.1)%bP,(-a.2)%bP)
theorem cn_ng (a:E2):cn (ng2 a):=⟨md_lt bP_pos,md_lt bP_pos⟩
theorem one_nz2:¬ R2.isz (1,0)=true:=fun h=>one_ne (isz3.1 h).1
theorem sub_z2 {x y:E2} (hx:cn x) (hy:cn y) (h:R2.isz (R2.sub y x)=true):x=y:=by
 obtain ⟨h1,h2⟩:=isz3.1 h
 refine Prod.ext ?_ ?_
 ·exact Classical.byContradiction fun hc=>sub_nz hx.1 hy.1 hc h1
 ·exact Classical.byContradiction fun hc=>sub_nz hx.2 hy.2 hc h2
theorem add_z2 {y y':E2} (hy:cn y) (hy':cn y') (h:R2.isz (R2.add y' y)=true):y=ng2 y':=by
 obtain ⟨h1,h2⟩:=isz3.1 h
 exact Prod.ext (opp_of hy.1 hy'.1 h1) (opp_of hy.2 hy'.2 h2)
theorem dbl_z2 {y:E2} (hy:cn y) (h:R2.isz (R2.add y y)=true):y=ng2 y:=add_z2 hy hy h
theorem ng_self {y:E2} (hy:cn y) (h:y=ng2 y):y=(0,0):=Prod.ext (neg_z hy.1.1 hy.1.2 (congrArg Prod.fst h)) (neg_z hy.2.1 hy.2.2 (congrArg Prod.snd h))
theorem hJ_2 (x y x' y':E2):hJ R2 ⟨x,y,(1,0)⟩ ⟨x',y',(1,0)⟩=R2.sub x' x:=by simp only [hJ,mul_one2]
theorem rJ_2 (x y x' y':E2):rJ R2 ⟨x,y,(1,0)⟩ ⟨x',y',(1,0)⟩=R2.sub y' y:=by simp only [rJ,mul_one2]
theorem sub_self2 (x:E2):R2.isz (R2.sub x x)=true:=isz3.2 ⟨by rw [Int.sub_self];rfl,by rw [Int.sub_self];rfl⟩
theorem lowV2_zz {P:J E2} (h:R2.isz P.z=true):lowV2 P=[0,0,0,0,1]:=if_pos (isz3.1 h)
theorem sq_dif2 {y y' s:E2} (h:R2.md (R2.mul y y)=R2.md s) (h':R2.md (R2.mul y' y')=R2.md s):R2.isz (R2.mul (R2.sub y' y) (R2.add y' y))=true:=by
 have e:R2.mul (R2.sub y' y) (R2.add y' y)=R2.sub (R2.mul y' y') (R2.mul y y):=by
  obtain ⟨a,b⟩:=y
  obtain ⟨c,d⟩:=y'
  simp only [R2]
  refine Prod.ext ?_ ?_
  ·simp only []
   grind
  ·simp only []
   grind
 rw [e]
 have h2:=h'.trans h.symm
 have h3:S2 (R2.mul y' y') (R2.mul y y):=⟨congrArg Prod.fst h2,congrArg Prod.snd h2⟩
 rw [S2_isz (S2R_sub h3 (S2_refl (R2.mul y y)))]
 exact sub_self2 _
section
variable {x y x' y':E2}
theorem sum_opp2 (hy:cn y) (hy':cn y') (h:y=ng2 y'):lowV2 (sumJ R2 ⟨x,y,(1,0)⟩ ⟨x,y',(1,0)⟩)=[0,0,0,0,1]:=by
 have d1:R2.isz (hJ R2 ⟨x,y,(1,0)⟩ ⟨x,y',(1,0)⟩)=true:=by rw [hJ_2];exact sub_self2 x
 by_cases hc:y=y'
 ·subst hc
  have h0:=ng_self hy h
  rw [sumJ_dbl one_nz2 one_nz2 d1 (by rw [rJ_2];exact sub_self2 y)]
  refine lowV2_zz ?_
  rw [dz2,h0]
  exact isz3.2 ⟨rfl,rfl⟩
 ·rw [sumJ_opp one_nz2 one_nz2 d1 (fun hz=>hc (sub_z2 hy hy' (by rw [rJ_2] at hz;exact hz)))]
  exact lowV2_zz isz_o2
theorem sum_dbl2 (hy:cn y) (h:¬ y=ng2 y):lowV2 (sumJ R2 ⟨x,y,(1,0)⟩ ⟨x,y,(1,0)⟩)=[(affX2 (R2.mul (t3 x) (inv2 (R2.add y y))) x x).1%bP,(affX2 (R2.mul (t3 x) (inv2 (R2.add y y))) x x).2%bP,(affY2 (R2.mul (t3 x) (inv2 (R2.add y y))) x y (affX2 (R2.mul (t3 x) (inv2 (R2.add y y))) x x)).1%bP,(affY2 (R2.mul (t3 x) (inv2 (R2.add y y))) x y (affX2 (R2.mul (t3 x) (inv2 (R2.add y y))) x x)).2%bP,0]:=by
 rw [sumJ_dbl one_nz2 one_nz2 (by rw [hJ_2];exact sub_self2 x) (by rw [rJ_2];exact sub_self2 y)]
 exact aff_dbl2 (fun hz=>h (dbl_z2 hy hz))
theorem sum_gen2 (hx:cn x) (hx':cn x') (h:¬ x=x'):lowV2 (sumJ R2 ⟨x,y,(1,0)⟩ ⟨x',y',(1,0)⟩)=[(affX2 (R2.mul (R2.sub y' y) (inv2 (R2.sub x' x))) x x').1%bP,(affX2 (R2.mul (R2.sub y' y) (inv2 (R2.sub x' x))) x x').2%bP,(affY2 (R2.mul (R2.sub y' y) (inv2 (R2.sub x' x))) x y (affX2 (R2.mul (R2.sub y' y) (inv2 (R2.sub x' x))) x x')).1%bP,(affY2 (R2.mul (R2.sub y' y) (inv2 (R2.sub x' x))) x y (affX2 (R2.mul (R2.sub y' y) (inv2 (R2.sub x' x))) x x')).2%bP,0]:=by
 have hn:¬ R2.isz (R2.sub x' x)=true:=fun hz=>h (sub_z2 hx hx' hz)
 rw [sumJ_gen one_nz2 one_nz2 (fun hz=>hn (by rw [hJ_2] at hz;exact hz))]
 exact aff_add2 hn
theorem low2_1 (hx:cn x) (hy:cn y):lowV2 ⟨x,y,(1,0)⟩=[x.1,x.2,y.1,y.2,0]:=by
 have h1:S2 (inv2 (1,0)) (1,0):=S2_trans (S2_symm (S2_eq (one_mul2 _))) (E_inv one_nz2)
 rw [lowV2_of (x:=x) (y:=y) (P:=⟨x,y,(1,0)⟩) one_nz2 (u_sq h1 x) (u_cu h1 y)]
 rw [Int.emod_eq_of_lt hx.1.1 hx.1.2,Int.emod_eq_of_lt hx.2.1 hx.2.2,Int.emod_eq_of_lt hy.1.1 hy.1.2,Int.emod_eq_of_lt hy.2.1 hy.2.2]
end
theorem PQ.S {a b:Int} {A:E2} (h:PQ a b A):S2 (a,b) A:=⟨by rw [h.1];exact md_self _,by rw [h.2];exact md_self _⟩
theorem PQ_of {x y:Int} {B C:E2} (h:x=B.1%bP) (k:y=B.2%bP) (s:S2 B C):PQ x y C:=⟨h.trans s.1,k.trans s.2⟩
theorem PQ_cn {a:E2} (h:cn a):PQ a.1 a.2 a:=⟨(Int.emod_eq_of_lt h.1.1 h.1.2).symm,(Int.emod_eq_of_lt h.2.1 h.2.2).symm⟩
theorem PQ2_mul {x y a b c d:Int} {A C:E2} (h:x=(a*c-b*d)%bP) (k:y=(a*d+b*c)%bP) (ha:PQ a b A) (hc:PQ c d C):PQ x y (R2.mul A C):=PQ_of (B:=R2.mul (a,b) (c,d)) h k (S2R_mul ha.S hc.S)
theorem PQ2_add {x y a b c d:Int} {A C:E2} (h:x=(a+c)%bP) (k:y=(b+d)%bP) (ha:PQ a b A) (hc:PQ c d C):PQ x y (R2.add A C):=PQ_of (B:=R2.add (a,b) (c,d)) h k (S2R_add ha.S hc.S)
theorem PQ2_sub {x y a b c d:Int} {A C:E2} (h:x=(a-c)%bP) (k:y=(b-d)%bP) (ha:PQ a b A) (hc:PQ c d C):PQ x y (R2.sub A C):=PQ_of (B:=R2.sub (a,b) (c,d)) h k (S2R_sub ha.S hc.S)
theorem PQ2_inv {x y a b:Int} {A:E2} (h:x=a*nrm a b%bP) (k:y=(-(b*nrm a b))%bP) (ha:PQ a b A):PQ x y (inv2 A):=PQ_of (B:=inv2 (a,b)) h k (inv2_S2 ha.S)
theorem c_pt2 {e:Nat->Int} {T:List K} {v:Int} {i j i' j' k l k' l' z z':Nat} (h:v=(D.eqs [(.limb i 0,.limb j 0),(.limb i 1,.limb j 1),(.limb i 2,.limb j 2),(.limb i 3,.limb j 3),(.limb i 4,.limb j 4),(.limb i 5,.limb j 5),(.limb i' 0,.limb j' 0),(.limb i' 1,.limb j' 1),(.limb i' 2,.limb j' 2),(.limb i' 3,.limb j' 3),(.limb i' 4,.limb j' 4),(.limb i' 5,.limb j' 5),(.limb k 0,.limb l 0),(.limb k 1,.limb l 1),(.limb k 2,.limb l 2),(.limb k 3,.limb l 3),(.limb k 4,.limb l 4),(.limb k 5,.limb l 5),(.limb k' 0,.limb l' 0),(.limb k' 1,.limb l' 1),(.limb k' 2,.limb l' 2),(.limb k' 3,.limb l' 3),(.limb k' 4,.limb l' 4),(.limb k' 5,.limb l' 5),(.var z,.var z')]).ev T e) (hi:0<=e i/\e i<N384) (hj:0<=e j/\e j<N384) (hi':0<=e i'/\e i'<N384) (hj':0<=e j'/\e j'<N384) (hk:0<=e k/\e k<N384) (hl:0<=e l/\e l<N384) (hk':0<=e k'/\e k'<N384) (hl':0<=e l'/\e l'<N384):(v=1/\((e i=e j/\e i'=e j')/\(e k=e l/\e k'=e l')/\e z=e z'))∨(v=0/\¬ ((e i=e j/\e i'=e j')/\(e k=e l/\e k'=e l')/\e z=e z')):=by
 simp only [D.ev,List.all_cons,List.all_nil,ev_limb,ev_var,Bool.and_true,b2i_bi,Bool.and_eq_true,beq_iff_eq] at h
 by_cases hc:(e i=e j/\e i'=e j')/\(e k=e l/\e k'=e l')/\e z=e z'
 ·left;rw [hc.1.1,hc.1.2,hc.2.1.1,hc.2.1.2,hc.2.2] at h;simp at h;exact ⟨h,hc⟩
 ·right
  rw [if_neg (fun hh=>hc (by
   obtain ⟨a0,a1,a2,a3,a4,a5,b0,b1,b2,b3,b4,b5,c0,c1,c2,c3,c4,c5,d0,d1,d2,d3,d4,d5,z0⟩:=hh
   exact ⟨⟨lim_inj hi hj ⟨a0,a1,a2,a3,a4,a5⟩,lim_inj hi' hj' ⟨b0,b1,b2,b3,b4,b5⟩⟩,⟨lim_inj hk hl ⟨c0,c1,c2,c3,c4,c5⟩,lim_inj hk' hl' ⟨d0,d1,d2,d3,d4,d5⟩⟩,z0⟩))] at h
  exact ⟨h,hc⟩
def slope2 (x y:E2) (z:Int) (x' y':E2) (z':Int):E2:=if x=x'/\y=y'/\z=z' then R2.mul (t3 x) (inv2 (R2.add y y)) else R2.mul (R2.sub y' y) (inv2 (R2.sub x' x))
def kRSlope2 (f:FuncId):K:={fn:=f,ext:=false,ins:=[.agg lsP2,.agg lsP2],outs:=[oE2],pre:=fun | [a,b,c,d,_,a',b',c',d',_]=>(cn (a,b)/\cn (c,d))/\(cn (a',b')/\cn (c',d')) | _=>False,sem:=fun | [a,b,c,d,z,a',b',c',d',z']=>[(slope2 (a,b) (c,d) z (a',b') (c',d') z').1%bP,(slope2 (a,b) (c,d) z (a',b') (c',d') z').2%bP] | _=>[] }
def tRSlope2:Tree:=(.lett 10 .bit (.eqs [((.limb 0 0),(.limb 5 0)),((.limb 0 1),(.limb 5 1)),((.limb 0 2),(.limb 5 2)),((.limb 0 3),(.limb 5 3)),((.limb 0 4),(.limb 5 4)),((.limb 0 5),(.limb 5 5)),((.limb 1 0),(.limb 6 0)),((.limb 1 1),(.limb 6 1)),((.limb 1 2),(.limb 6 2)),((.limb 1 3),(.limb 6 3)),((.limb 1 4),(.limb 6 4)),((.limb 1 5),(.limb 6 5)),((.limb 2 0),(.limb 7 0)),((.limb 2 1),(.limb 7 1)),((.limb 2 2),(.limb 7 2)),((.limb 2 3),(.limb 7 3)),((.limb 2 4),(.limb 7 4)),((.limb 2 5),(.limb 7 5)),((.limb 3 0),(.limb 8 0)),((.limb 3 1),(.limb 8 1)),((.limb 3 2),(.limb 8 2)),((.limb 3 3),(.limb 8 3)),((.limb 3 4),(.limb 8 4)),((.limb 3 5),(.limb 8 5)),((.var 4),(.var 9))])
(.split 10
(.req 0 [.var 0,.var 1,.var 0,.var 1]
(.lett 11 .num (.app 0 0 [.var 0,.var 1,.var 0,.var 1])
(.lett 12 .num (.app 0 1 [.var 0,.var 1,.var 0,.var 1])
(.req 1 [.var 11,.var 12,.var 11,.var 12]
(.lett 109 .num (.app 1 0 [.var 11,.var 12,.var 11,.var 12])
(.lett 110 .num (.app 1 1 [.var 11,.var 12,.var 11,.var 12])
(.req 1 [.var 109,.var 110,.var 11,.var 12]
(.lett 205 .num (.app 1 0 [.var 109,.var 110,.var 11,.var 12])
(.lett 206 .num (.app 1 1 [.var 109,.var 110,.var 11,.var 12])
(.req 1 [.var 2,.var 3,.var 2,.var 3]
(.lett 445 .num (.app 1 0 [.var 2,.var 3,.var 2,.var 3])
(.lett 446 .num (.app 1 1 [.var 2,.var 3,.var 2,.var 3])
(.req 3 [.var 445,.var 446]
(.lett 493 .num (.app 3 0 [.var 445,.var 446])
(.lett 494 .num (.app 3 1 [.var 445,.var 446])
(.req 0 [.var 205,.var 206,.var 493,.var 494]
(.lett 541 .num (.app 0 0 [.var 205,.var 206,.var 493,.var 494])
(.lett 542 .num (.app 0 1 [.var 205,.var 206,.var 493,.var 494])
(.ret [.var 541,.var 542])))))))))))))))))))
(.req 2 [.var 7,.var 8,.var 2,.var 3]
(.lett 203 .num (.app 2 0 [.var 7,.var 8,.var 2,.var 3])
(.lett 204 .num (.app 2 1 [.var 7,.var 8,.var 2,.var 3])
(.req 2 [.var 5,.var 6,.var 0,.var 1]
(.lett 443 .num (.app 2 0 [.var 5,.var 6,.var 0,.var 1])
(.lett 444 .num (.app 2 1 [.var 5,.var 6,.var 0,.var 1])
(.req 3 [.var 443,.var 444]
(.lett 491 .num (.app 3 0 [.var 443,.var 444])
(.lett 492 .num (.app 3 1 [.var 443,.var 444])
(.req 0 [.var 203,.var 204,.var 491,.var 492]
(.lett 539 .num (.app 0 0 [.var 203,.var 204,.var 491,.var 492])
(.lett 540 .num (.app 0 1 [.var 203,.var 204,.var 491,.var 492])
(.ret [.var 539,.var 540])))))))))))))))
theorem law_rSlope2 (f1 f2 f3 f4 f:FuncId) (e:Nat->Int) (hk:kkHas [.num,.num,.num,.num,.bit,.num,.num,.num,.num,.bit] [e 0,e 1,e 2,e 3,e 4,e 5,e 6,e 7,e 8,e 9]) (hp:(kRSlope2 f).pre [e 0,e 1,e 2,e 3,e 4,e 5,e 6,e 7,e 8,e 9]):tRSlope2.says [kRMul2 f1,kRAdd2 f2,kRSub2 f3,kRInv2 f4] ⟨fun ys=>ys=(kRSlope2 f).sem [e 0,e 1,e 2,e 3,e 4,e 5,e 6,e 7,e 8,e 9],[]⟩ e:=by
 obtain ⟨⟨hx,hy⟩,hx',hy'⟩:(cn (e 0,e 1)/\cn (e 2,e 3))/\(cn (e 5,e 6)/\cn (e 7,e 8)):=hp
 obtain ⟨k0,k1,k2,k3,_,k5,k6,k7,k8,_⟩:=hk
 have px:=PQ_cn hx
 have py:=PQ_cn hy
 have px':=PQ_cn hx'
 have py':=PQ_cn hy'
 have hr:(kRSlope2 f).sem [e 0,e 1,e 2,e 3,e 4,e 5,e 6,e 7,e 8,e 9]=[(slope2 (e 0,e 1) (e 2,e 3) (e 4) (e 5,e 6) (e 7,e 8) (e 9)).1%bP,(slope2 (e 0,e 1) (e 2,e 3) (e 4) (e 5,e 6) (e 7,e 8) (e 9)).2%bP]:=rfl
 rw [hr]
 intro a10 _
 have b10:=c_pt2 a10 k0 k5 k1 k6 k2 k7 k3 k8
 refine ⟨fun h=>?_,fun h=>?_⟩
 ·have z:=b_yes b10 h
  rw [show slope2 (e 0,e 1) (e 2,e 3) (e 4) (e 5,e 6) (e 7,e 8) (e 9)=R2.mul (t3 (e 0,e 1)) (inv2 (R2.add (e 2,e 3) (e 2,e 3))) from if_pos ⟨Prod.ext z.1.1 z.1.2,Prod.ext z.2.1.1 z.2.1.2,z.2.2⟩]
  refine ⟨⟨px.l1,px.l2,px.l1,px.l2⟩,fun a1 _ a2 _=>?_⟩
  have m:=PQ2_mul (x:=e 11) (y:=e 12) a1 a2 px px
  refine ⟨⟨m.l1,m.l2,m.l1,m.l2⟩,fun a1 _ a2 _=>?_⟩
  have m2:=PQ2_add (x:=e 109) (y:=e 110) a1 a2 m m
  refine ⟨⟨m2.l1,m2.l2,m.l1,m.l2⟩,fun a1 _ a2 _=>?_⟩
  have m3:=PQ2_add (x:=e 205) (y:=e 206) a1 a2 m2 m
  refine ⟨⟨py.l1,py.l2,py.l1,py.l2⟩,fun a1 _ a2 _=>?_⟩
  have yy:=PQ2_add (x:=e 445) (y:=e 446) a1 a2 py py
  refine ⟨⟨yy.l1,yy.l2⟩,fun a1 _ a2 _=>?_⟩
  have iv:=PQ2_inv (x:=e 493) (y:=e 494) a1 a2 yy
  refine ⟨⟨m3.l1,m3.l2,iv.l1,iv.l2⟩,fun a1 _ a2 _=>?_⟩
  have r:=PQ2_mul (x:=e 541) (y:=e 542) a1 a2 m3 iv
  show [e 541,e 542]=_
  rw [r.1,r.2];rfl
 ·have z:=b_no b10 h
  rw [show slope2 (e 0,e 1) (e 2,e 3) (e 4) (e 5,e 6) (e 7,e 8) (e 9)=R2.mul (R2.sub (e 7,e 8) (e 2,e 3)) (inv2 (R2.sub (e 5,e 6) (e 0,e 1))) from if_neg (fun hc=>z ⟨⟨congrArg Prod.fst hc.1,congrArg Prod.snd hc.1⟩,⟨congrArg Prod.fst hc.2.1,congrArg Prod.snd hc.2.1⟩,hc.2.2⟩)]
  refine ⟨⟨py'.l1,py'.l2,py.l1,py.l2⟩,fun a1 _ a2 _=>?_⟩
  have m:=PQ2_sub (x:=e 203) (y:=e 204) a1 a2 py' py
  refine ⟨⟨px'.l1,px'.l2,px.l1,px.l2⟩,fun a1 _ a2 _=>?_⟩
  have d:=PQ2_sub (x:=e 443) (y:=e 444) a1 a2 px' px
  refine ⟨⟨d.l1,d.l2⟩,fun a1 _ a2 _=>?_⟩
  have iv:=PQ2_inv (x:=e 491) (y:=e 492) a1 a2 d
  refine ⟨⟨m.l1,m.l2,iv.l1,iv.l2⟩,fun a1 _ a2 _=>?_⟩
  have r:=PQ2_mul (x:=e 539) (y:=e 540) a1 a2 m iv
  show [e 539,e 540]=_
  rw [r.1,r.2]
def kRAddP2 (f:FuncId):K:={fn:=f,ext:=false,ins:=[.agg lsP2,.agg lsP2],outs:=[.agg lsP2],pre:=fun | [a,b,c,d,z,a',b',c',d',z']=>onV2 a b c d z/\onV2 a' b' c' d' z' | _=>False,sem:=fun | [a,b,c,d,z,a',b',c',d',z']=>lowV2 (sumJ R2 (rsV2 a b c d z) (rsV2 a' b' c' d' z')) | _=>[] }
def tRAddP2:Tree:=(.split 4
(.ret [.var 5,.var 6,.var 7,.var 8,.var 9])
(.split 9
 (.ret [.var 0,.var 1,.var 2,.var 3,.var 4])
 (.req 0 [.var 5,.var 6,.var 7,.var 8,.var 9]
 (.lett 106 .num (.app 0 0 [.var 5,.var 6,.var 7,.var 8,.var 9])
 (.lett 107 .num (.app 0 1 [.var 5,.var 6,.var 7,.var 8,.var 9])
 (.lett 108 .num (.app 0 2 [.var 5,.var 6,.var 7,.var 8,.var 9])
 (.lett 109 .num (.app 0 3 [.var 5,.var 6,.var 7,.var 8,.var 9])
 (.lett 110 .bit (.app 0 4 [.var 5,.var 6,.var 7,.var 8,.var 9])
 (.lett 154 .bit (.eqs [((.limb 0 0),(.limb 106 0)),((.limb 0 1),(.limb 106 1)),((.limb 0 2),(.limb 106 2)),((.limb 0 3),(.limb 106 3)),((.limb 0 4),(.limb 106 4)),((.limb 0 5),(.limb 106 5)),((.limb 1 0),(.limb 107 0)),((.limb 1 1),(.limb 107 1)),((.limb 1 2),(.limb 107 2)),((.limb 1 3),(.limb 107 3)),((.limb 1 4),(.limb 107 4)),((.limb 1 5),(.limb 107 5)),((.limb 2 0),(.limb 108 0)),((.limb 2 1),(.limb 108 1)),((.limb 2 2),(.limb 108 2)),((.limb 2 3),(.limb 108 3)),((.limb 2 4),(.limb 108 4)),((.limb 2 5),(.limb 108 5)),((.limb 3 0),(.limb 109 0)),((.limb 3 1),(.limb 109 1)),((.limb 3 2),(.limb 109 2)),((.limb 3 3),(.limb 109 3)),((.limb 3 4),(.limb 109 4)),((.limb 3 5),(.limb 109 5)),((.var 4),(.var 110))])
 (.split 154
 (.ret [.lit 0,.lit 0,.lit 0,.lit 0,.lit 1])
 (.req 1 [.var 0,.var 1,.var 2,.var 3,.var 4,.var 5,.var 6,.var 7,.var 8,.var 9]
 (.lett 202 .num (.app 1 0 [.var 0,.var 1,.var 2,.var 3,.var 4,.var 5,.var 6,.var 7,.var 8,.var 9])
 (.lett 203 .num (.app 1 1 [.var 0,.var 1,.var 2,.var 3,.var 4,.var 5,.var 6,.var 7,.var 8,.var 9])
 (.req 2 [.var 202,.var 203,.var 202,.var 203]
 (.lett 300 .num (.app 2 0 [.var 202,.var 203,.var 202,.var 203])
 (.lett 301 .num (.app 2 1 [.var 202,.var 203,.var 202,.var 203])
 (.req 3 [.var 300,.var 301,.var 0,.var 1]
 (.lett 444 .num (.app 3 0 [.var 300,.var 301,.var 0,.var 1])
 (.lett 445 .num (.app 3 1 [.var 300,.var 301,.var 0,.var 1])
 (.req 3 [.var 444,.var 445,.var 5,.var 6]
 (.lett 588 .num (.app 3 0 [.var 444,.var 445,.var 5,.var 6])
 (.lett 589 .num (.app 3 1 [.var 444,.var 445,.var 5,.var 6])
 (.req 3 [.var 0,.var 1,.var 588,.var 589]
 (.lett 972 .num (.app 3 0 [.var 0,.var 1,.var 588,.var 589])
 (.lett 973 .num (.app 3 1 [.var 0,.var 1,.var 588,.var 589])
 (.req 2 [.var 202,.var 203,.var 972,.var 973]
 (.lett 1020 .num (.app 2 0 [.var 202,.var 203,.var 972,.var 973])
 (.lett 1021 .num (.app 2 1 [.var 202,.var 203,.var 972,.var 973])
 (.req 3 [.var 1020,.var 1021,.var 2,.var 3]
 (.lett 1164 .num (.app 3 0 [.var 1020,.var 1021,.var 2,.var 3])
 (.lett 1165 .num (.app 3 1 [.var 1020,.var 1021,.var 2,.var 3])
 (.ret [.var 588,.var 589,.var 1164,.var 1165,.lit 0]))))))))))))))))))))))))))))))))
theorem law_rAddP2 (f1 f2 f3 f4 f:FuncId) (e:Nat->Int) (hk:kkHas [.num,.num,.num,.num,.bit,.num,.num,.num,.num,.bit] [e 0,e 1,e 2,e 3,e 4,e 5,e 6,e 7,e 8,e 9]) (hp:(kRAddP2 f).pre [e 0,e 1,e 2,e 3,e 4,e 5,e 6,e 7,e 8,e 9]):tRAddP2.says [kRNegP2 f1,kRSlope2 f2,kRMul2 f3,kRSub2 f4] ⟨fun ys=>ys=(kRAddP2 f).sem [e 0,e 1,e 2,e 3,e 4,e 5,e 6,e 7,e 8,e 9],[]⟩ e:=by
 obtain ⟨o1,o2⟩:onV2 (e 0) (e 1) (e 2) (e 3) (e 4)/\onV2 (e 5) (e 6) (e 7) (e 8) (e 9):=hp
 obtain ⟨k0,k1,k2,k3,k4,k5,k6,k7,k8,k9,_⟩:=hk
 have hx:cn (e 0,e 1):=⟨⟨k0.1,o1.1.1.1⟩,k1.1,o1.1.1.2⟩
 have hy:cn (e 2,e 3):=⟨⟨k2.1,o1.1.2.1⟩,k3.1,o1.1.2.2⟩
 have hx':cn (e 5,e 6):=⟨⟨k5.1,o2.1.1.1⟩,k6.1,o2.1.1.2⟩
 have hy':cn (e 7,e 8):=⟨⟨k7.1,o2.1.2.1⟩,k8.1,o2.1.2.2⟩
 have k4:0<=e 4/\e 4<=1:=k4
 have k9:0<=e 9/\e 9<=1:=k9
 show tRAddP2.says _ ⟨fun ys=>ys=lowV2 (sumJ R2 (rsV2 (e 0) (e 1) (e 2) (e 3) (e 4)) (rsV2 (e 5) (e 6) (e 7) (e 8) (e 9))),[]⟩ e
 refine ⟨fun c4=>?_,fun c4=>?_⟩
 ·show [e 5,e 6,e 7,e 8,e 9]=_
  rw [show rsV2 (e 0) (e 1) (e 2) (e 3) (e 4)=oJ R2 from if_neg c4,sumJ_z1 isz_o2]
  by_cases hz:e 9=0
  ·rw [show rsV2 (e 5) (e 6) (e 7) (e 8) (e 9)=⟨(e 5,e 6),(e 7,e 8),(1,0)⟩ from if_pos hz,low2_1 hx' hy',hz]
  ·have o3:=((onV2_1 hz).1 o2).2
   rw [show rsV2 (e 5) (e 6) (e 7) (e 8) (e 9)=oJ R2 from if_neg hz,lowV2_zz isz_o2,o3.1.1,o3.1.2,o3.2.1,o3.2.2,show e 9=1 by omega]
 have r1:rsV2 (e 0) (e 1) (e 2) (e 3) (e 4)=⟨(e 0,e 1),(e 2,e 3),(1,0)⟩:=if_pos c4
 refine ⟨fun c9=>?_,fun c9=>?_⟩
 ·show [e 0,e 1,e 2,e 3,e 4]=_
  rw [show rsV2 (e 5) (e 6) (e 7) (e 8) (e 9)=oJ R2 from if_neg c9,r1,sumJ_z2 one_nz2 isz_o2,low2_1 hx hy,c4]
 have r2:rsV2 (e 5) (e 6) (e 7) (e 8) (e 9)=⟨(e 5,e 6),(e 7,e 8),(1,0)⟩:=if_pos c9
 rw [r1,r2]
 have s1:=((onV2_0 c4).1 o1).2
 have s2:=((onV2_0 c9).1 o2).2
 refine ⟨⟨hy'.1.2,hy'.2.2⟩,fun a106 k106 a107 k107 a108 k108 a109 k109 a110 k110 a154 _=>?_⟩
 have v106:e 106=e 5:=a106
 have v107:e 107=e 6:=a107
 have v108:e 108=(-e 7)%bP:=a108
 have v109:e 109=(-e 8)%bP:=a109
 have v110:e 110=e 9:=a110
 have b154:=c_pt2 a154 k0 k106 k1 k107 k2 k108 k3 k109
 rw [v106,v107,v108,v109,v110] at b154
 refine ⟨fun h=>?_,fun h=>?_⟩
 ·have z:=b_yes b154 h
  show [(0:Int),0,0,0,1]=_
  rw [show ((e 5,e 6):E2)=(e 0,e 1) from (Prod.ext z.1.1 z.1.2).symm]
  exact (sum_opp2 hy hy' (Prod.ext z.2.1.1 z.2.1.2)).symm
 have z:=b_no b154 h
 have z:¬ ((e 0,e 1)=((e 5,e 6):E2)/\(e 2,e 3)=ng2 (e 7,e 8)):=fun hc=>z ⟨⟨congrArg Prod.fst hc.1,congrArg Prod.snd hc.1⟩,⟨congrArg Prod.fst hc.2,congrArg Prod.snd hc.2⟩,by rw [c4,c9]⟩
 refine ⟨⟨⟨hx,hy⟩,hx',hy'⟩,fun a1 _ a2 _=>?_⟩
 obtain ⟨M,hM⟩:∃ M,M=slope2 (e 0,e 1) (e 2,e 3) (e 4) (e 5,e 6) (e 7,e 8) (e 9):=⟨_,rfl⟩
 have m:PQ (e 202) (e 203) M:=by rw [hM];exact ⟨a1,a2⟩
 have px:=PQ_cn hx
 have py:=PQ_cn hy
 have px':=PQ_cn hx'
 refine ⟨⟨m.l1,m.l2,m.l1,m.l2⟩,fun a1 _ a2 _=>?_⟩
 have mm:=PQ2_mul (x:=e 300) (y:=e 301) a1 a2 m m
 refine ⟨⟨mm.l1,mm.l2,px.l1,px.l2⟩,fun a1 _ a2 _=>?_⟩
 have n1:=PQ2_sub (x:=e 444) (y:=e 445) a1 a2 mm px
 refine ⟨⟨n1.l1,n1.l2,px'.l1,px'.l2⟩,fun a1 _ a2 _=>?_⟩
 have n2:=PQ2_sub (x:=e 588) (y:=e 589) a1 a2 n1 px'
 refine ⟨⟨px.l1,px.l2,n2.l1,n2.l2⟩,fun a1 _ a2 _=>?_⟩
 have n3:=PQ2_sub (x:=e 972) (y:=e 973) a1 a2 px n2
 refine ⟨⟨m.l1,m.l2,n3.l1,n3.l2⟩,fun a1 _ a2 _=>?_⟩
 have n4:=PQ2_mul (x:=e 1020) (y:=e 1021) a1 a2 m n3
 refine ⟨⟨n4.l1,n4.l2,py.l1,py.l2⟩,fun a1 _ a2 _=>?_⟩
 have n5:=PQ2_sub (x:=e 1164) (y:=e 1165) a1 a2 n4 py
 show [e 588,e 589,e 1164,e 1165,0]=_
 rw [n2.1,n2.2,n5.1,n5.2]
 by_cases hc:(e 0,e 1)=((e 5,e 6):E2)/\(e 2,e 3)=((e 7,e 8):E2)
 ·rw [show slope2 (e 0,e 1) (e 2,e 3) (e 4) (e 5,e 6) (e 7,e 8) (e 9)=R2.mul (t3 (e 0,e 1)) (inv2 (R2.add (e 2,e 3) (e 2,e 3))) from if_pos ⟨hc.1,hc.2,by rw [c4,c9]⟩] at hM
  rw [<- hc.1,<- hc.2,sum_dbl2 hy (fun hn=>z ⟨hc.1,by rw [<- hc.2];exact hn⟩),<- hM];rfl
 ·rw [show slope2 (e 0,e 1) (e 2,e 3) (e 4) (e 5,e 6) (e 7,e 8) (e 9)=R2.mul (R2.sub (e 7,e 8) (e 2,e 3)) (inv2 (R2.sub (e 5,e 6) (e 0,e 1))) from if_neg (fun hh=>hc ⟨hh.1,hh.2.1⟩)] at hM
  have hxx:¬ (e 0,e 1)=((e 5,e 6):E2):=fun hxx=>by
   have hd:=sq_dif2 s1 (by rw [hxx];exact s2)
   have hne:¬ R2.isz (R2.sub (e 7,e 8) (e 2,e 3))=true:=fun hz=>hc ⟨hxx,sub_z2 hy hy' hz⟩
   exact z ⟨hxx,add_z2 hy hy' (mul2_z hd hne)⟩
  rw [sum_gen2 hx hx' hxx,<- hM];rfl
def isSq2 (a:E2):Prop:=∃ y:E2,S2 (R2.mul y y) a
def great2 (y:E2):Prop:=bP/2<y.2∨(y.2=0/\bP/2<y.1)
instance (y:E2):Decidable (great2 y):=by unfold great2;exact inferInstance
def les2 (y:E2):E2:=if great2 y then ng2 y else y
open Classical in
noncomputable def rt2 (a:E2):E2:=if h:isSq2 a then les2 (R2.md h.choose) else (0,0)
theorem ng_1 {c:Int} (h:0<=c/\c<bP):(c=0/\(-c)%bP=0)∨(0<c/\(-c)%bP=bP-c):=by
 by_cases h0:c=0
 ·left;rw [h0];exact ⟨rfl,rfl⟩
 ·right;exact ⟨by omega,neg_md (by omega) h.2⟩
theorem ng_ng {c:E2} (h:cn c):ng2 (ng2 c)=c:=by
 have one:∀ {c:Int},0<=c/\c<bP->(-((-c)%bP))%bP=c:=fun {c} h=>by
  rcases ng_1 h with ⟨h0,h1⟩ | ⟨h0,h1⟩
  ·rw [h1,h0];rfl
  ·rw [h1,neg_md (by omega) (by omega)];omega
 exact Prod.ext (one h.1) (one h.2)
theorem les_ng {c:E2} (h:cn c):les2 (ng2 c)=les2 c:=by
 have hodd:=bP_odd
 have g:great2 (ng2 c)↔(¬ great2 c/\¬ c=(0,0)):=by
  have e0:c=(0,0)↔c.1=0/\c.2=0:=⟨fun h=>by rw [h];exact ⟨rfl,rfl⟩,fun h=>Prod.ext h.1 h.2⟩
  rw [e0]
  unfold great2
  show (bP/2<(-c.2)%bP∨((-c.2)%bP=0/\bP/2<(-c.1)%bP))↔_
  rcases ng_1 h.1 with ⟨a0,a1⟩ | ⟨a0,a1⟩ <;> rcases ng_1 h.2 with ⟨b0,b1⟩ | ⟨b0,b1⟩ <;> rw [a1,b1] <;> have:=h.1.2 <;> have:=h.2.2 <;> clear a1 b1 <;> generalize bP=p at * <;> omega
 unfold les2
 by_cases hg:great2 c
 ·rw [if_pos hg,if_neg (fun hc=>(g.1 hc).1 hg)]
 ·by_cases h0:c=(0,0)
  ·rw [h0];rfl
  ·rw [if_neg hg,if_pos (g.2 ⟨hg,h0⟩),ng_ng h]
theorem md_cn (a:E2):cn (R2.md a):=⟨md_lt bP_pos,md_lt bP_pos⟩
theorem S2_md (a:E2):S2 (R2.md a) a:=⟨md_self _,md_self _⟩
theorem md_of_S2 {a b:E2} (h:S2 a b):R2.md a=R2.md b:=Prod.ext h.1 h.2
theorem rt2_of {y a:E2} (hy:cn y) (h:S2 (R2.mul y y) a):rt2 a=les2 y:=by
 have hs:isSq2 a:=⟨y,h⟩
 unfold rt2
 rw [dif_pos hs]
 have hc:=hs.choose_spec
 generalize hs.choose=c at hc ⊢
 have hc':S2 (R2.mul (R2.md c) (R2.md c)) a:=S2_trans (S2R_mul (S2_md c) (S2_md c)) hc
 have hd:=sq_dif2 (y:=y) (y':=R2.md c) (md_of_S2 h) (md_of_S2 hc')
 by_cases hz:R2.isz (R2.sub (R2.md c) y)=true
 ·rw [sub_z2 hy (md_cn c) hz]
 ·rw [add_z2 hy (md_cn c) (mul2_z hd hz),les_ng (md_cn c)]
theorem rt2_no {a:E2} (h:¬ isSq2 a):rt2 a=(0,0):=dif_neg h
theorem cn_les {y:E2} (h:cn y):cn (les2 y):=by
 unfold les2;split
 ·exact cn_ng y
 ·exact h
theorem sub0 {x y:Int} (h:x%bP=y%bP):(x-y)%bP=0:=by rw [Int.sub_emod,h,Int.sub_self];rfl
theorem of_sub0 {x y:Int} (h:(x-y)%bP=0):x%bP=y%bP:=by
 have:=mdE_add (p:=bP) (a:=x-y) (A:=0) (b:=y) (B:=y) (by rw [h];rfl) rfl
 rwa [Int.sub_add_cancel,Int.zero_add] at this
theorem lin2 {u v E a b:Int} (hu:u%bP=0) (hv:v%bP=0) (h:E=u*a+v*b):E%bP=0:=by
 rw [h];exact md0_add (md0_mul _ hu) (md0_mul _ hv)
theorem lin3 {u v w E a b c:Int} (hu:u%bP=0) (hv:v%bP=0) (hw:w%bP=0) (h:E=u*a+v*b+w*c):E%bP=0:=by
 rw [h];exact md0_add (md0_add (md0_mul _ hu) (md0_mul _ hv)) (md0_mul _ hw)
def kE:Nat:=((bP-3)/4).toNat
theorem eR_k:eR=kE+1:=by unfold eR kE bP;decide
theorem ferm_k {a:Int} (h:¬ a%bP=0):a^(2*(2*kE+1))%bP=1:=by
 have:=ferm h
 rwa [half_odd] at this
theorem rt_sq (c:Int):rtV c*rtV c%bP=c*c^(2*kE+1)%bP:=by
 have e:c^eR*c^eR=c*c^(2*kE+1):=by
  rw [eR_k,<- Int.pow_add,Int.mul_comm c,<- Int.pow_succ]
  congr 1 <;> omega
 rw [<- e]
 exact mdE_mul (md_self _) (md_self _)
theorem sq_u {c:Int} (h:c^(2*kE+1)%bP=1):sqV c:=by
 unfold sqV
 rw [rt_sq]
 have:=mdE_mul (p:=bP) (a:=c) (A:=c) (b:=c^(2*kE+1)) (B:=1) rfl (by rw [h];rfl)
 rwa [Int.mul_one] at this
theorem sq_z {c:Int} (h:c%bP=0):sqV c:=by
 unfold sqV
 rw [rt_sq,h]
 exact md0_mul _ h
theorem sq_of {c d:Int} (h:c%bP=d*d%bP):sqV c:=by
 by_cases hd:d%bP=0
 ·exact sq_z (by rw [h];exact md0_mul _ hd)
 ·refine sq_u ?_
  rw [<- ferm_k hd]
  have:=mdE_pow h (2*kE+1)
  rw [this,show d*d=d^2 by grind,<- Int.pow_mul]
theorem sq_neg {c:Int} (h:¬ sqV c):sqV (-c):=by
 have hc:¬ c%bP=0:=fun h0=>h (sq_z h0)
 have h1:=ferm_k hc
 have e:c^(2*(2*kE+1))=c^(2*kE+1)*c^(2*kE+1):=by rw [<- Int.pow_add];congr 1 <;> omega
 rw [e] at h1
 have hn:(-c)^(2*kE+1)=-(c^(2*kE+1)):=neg_odd c kE
 have hu:¬ c^(2*kE+1)%bP=1:=fun hu=>h (sq_u hu)
 generalize c^(2*kE+1)=u at *
 have h2:((u-1)*(u+1))%bP=0:=by
  have:=sub0 (x:=u*u) (y:=1) (by rw [h1];rfl)
  rwa [show (u-1)*(u+1)=u*u-1 by grind]
 have h3:¬ (u-1)%bP=0:=fun h0=>hu (by rw [of_sub0 h0];rfl)
 have h4:=mulB_z h2 h3
 refine sq_u ?_
 rw [hn]
 have:=sub0 (x:=u+1) (y:=0) (by rw [h4];rfl)
 have h5:(-u-1)%bP=0:=by
  have:=md0_mul (-1) h4
  rwa [show (u+1) * -1=-u-1 by omega] at this
 rw [of_sub0 h5];rfl
theorem sq_pm {a b:Int} (h:a*a%bP=b*b%bP):a%bP=b%bP∨a%bP=(-b)%bP:=by
 have h2:((a-b)*(a+b))%bP=0:=by
  have:=sub0 h
  rwa [show (a-b)*(a+b)=a*a-b*b by grind]
 by_cases h3:(a-b)%bP=0
 ·exact .inl (of_sub0 h3)
 ·right
  have h4:=mulB_z h2 h3
  exact of_sub0 (by rwa [Int.sub_neg])
theorem two_nz:¬ (2:Int)%bP=0:=by decide
theorem gen_root {A B s x w H i:Int} (hH:(2*H)%bP=1) (hs:s*s%bP=(A*A+B*B)%bP) (hB:¬ B%bP=0) (hx:x*x%bP=(A+s)*H%bP) (hi:¬ (x+x)%bP=0->(x+x)*i%bP=1) (hw:w%bP=B*i%bP):S2 (R2.mul (x,w) (x,w)) (A,B):=by
 have U2:=sub0 hs
 have V1:=sub0 hx
 have V2:(2*H-1)%bP=0:=sub0 (by rw [hH];rfl)
 have U1:((x+x)*x-(A+s))%bP=0:=lin2 (a:=2) (b:=A+s) V1 V2 (by grind)
 have hx0:¬ (x+x)%bP=0:=fun h0=>hB (by
  have hx1:x%bP=0:=mulB_z (x:=2) (by rw [show (2:Int)*x=x+x by omega];exact h0) two_nz
  have h1:(B*B)%bP=0:=lin3 (a:=-1) (b:=A-s) (c:=x*2*(s-A)) U2 U1 hx1 (by grind)
  exact Classical.byContradiction fun hb=>hb (mulB_z h1 hb))
 have h1:((x+x)*w-B)%bP=0:=by
  have W:=sub0 hw
  have I:=sub0 (x:=(x+x)*i) (y:=1) (by rw [hi hx0];rfl)
  exact lin2 (a:=x+x) (b:=B) W I (by grind)
 refine ⟨?_,?_⟩
 ·refine of_sub0 (x:=x*x-w*w) (y:=A) ?_
  have hD:((x+x)*((x+x)*(x*x-w*w-A)))%bP=0:=lin3 (a:=(x+x)*x-(A+s)+2*s) (b:=-((x+x)*w-B+2*B)) (c:=1) U1 h1 U2 (by grind)
  exact mulB_z (mulB_z hD hx0) hx0
 ·refine of_sub0 (x:=x*w+w*x) (y:=B) ?_
  rw [show x*w+w*x-B=(x+x)*w-B by grind];exact h1
theorem sq2_norm {A B:Int} (h:isSq2 (A,B)) {H:Int} (hH:(2*H)%bP=1):∃ n c d:Int,(A*A+B*B)%bP=n*n%bP/\(A+n)*H%bP=c*c%bP/\(n-A)*H%bP=d*d%bP/\A%bP=(c*c-d*d)%bP/\B%bP=(c*d+d*c)%bP:=by
 obtain ⟨⟨c,d⟩,h1,h2⟩:=h
 have a:(A-(c*c-d*d))%bP=0:=sub0 h1.symm
 have b:(B-(c*d+d*c))%bP=0:=sub0 h2.symm
 have V2:(2*H-1)%bP=0:=sub0 (by rw [hH];rfl)
 refine ⟨c*c+d*d,c,d,of_sub0 ?_,of_sub0 ?_,of_sub0 ?_,of_sub0 a,of_sub0 b⟩
 ·exact lin2 (a:=A+(c*c-d*d)) (b:=B+(c*d+d*c)) a b (by grind)
 ·exact lin2 (a:=H) (b:=c*c) a V2 (by grind)
 ·exact lin2 (a:=-H) (b:=d*d) a V2 (by grind)
theorem rt2_S {a b:E2} (h:S2 a b):rt2 a=rt2 b/\(isSq2 a↔isSq2 b):=by
 have hi:isSq2 a↔isSq2 b:=⟨fun ⟨y,hy⟩=>⟨y,S2_trans hy h⟩,fun ⟨y,hy⟩=>⟨y,S2_trans hy (S2_symm h)⟩⟩
 refine ⟨?_,hi⟩
 by_cases hs:isSq2 a
 ·obtain ⟨y,hy⟩:=hs
  have hy':S2 (R2.mul (R2.md y) (R2.md y)) a:=S2_trans (S2R_mul (S2_md y) (S2_md y)) hy
  rw [rt2_of (md_cn y) hy',rt2_of (md_cn y) (S2_trans hy' h)]
 ·rw [rt2_no hs,rt2_no (fun hb=>hs (hi.2 hb))]
theorem les_not {c:E2} (h:cn c):¬ great2 (les2 c):=by
 unfold les2
 by_cases hg:great2 c
 ·rw [if_pos hg]
  intro hc
  have hodd:=bP_odd
  have hc:bP/2<(-c.2)%bP∨((-c.2)%bP=0/\bP/2<(-c.1)%bP):=hc
  have hg:bP/2<c.2∨(c.2=0/\bP/2<c.1):=hg
  rcases ng_1 h.1 with ⟨a0,a1⟩ | ⟨a0,a1⟩ <;> rcases ng_1 h.2 with ⟨b0,b1⟩ | ⟨b0,b1⟩ <;> rw [a1,b1] at hc <;> have:=h.1.2 <;> have:=h.2.2 <;> clear a1 b1 <;> generalize bP=p at * <;> omega
 ·rw [if_neg hg];exact hg
theorem rt2_not (a:E2):¬ great2 (rt2 a):=by
 by_cases hs:isSq2 a
 ·obtain ⟨y,hy⟩:=hs
  rw [rt2_of (md_cn y) (S2_trans (S2R_mul (S2_md y) (S2_md y)) hy)]
  exact les_not (md_cn y)
 ·rw [rt2_no hs];decide
theorem rt2_cn (a:E2):cn (rt2 a):=by
 by_cases hs:isSq2 a
 ·obtain ⟨y,hy⟩:=hs
  rw [rt2_of (md_cn y) (S2_trans (S2R_mul (S2_md y) (S2_md y)) hy)]
  exact cn_les (md_cn y)
 ·rw [rt2_no hs];exact ⟨⟨by decide,bP_pos⟩,by decide,bP_pos⟩
theorem rt_of {c d:Int} (h:c%bP=d*d%bP):sqV c/\(rtV c%bP=d%bP∨rtV c%bP=(-d)%bP):=by
 have hs:=sq_of h
 refine ⟨hs,sq_pm ?_⟩
 exact (show rtV c*rtV c%bP=c%bP from hs).trans h
theorem ref_hit {A B n0 H:Int} (hH:(2*H)%bP=1) {n c d:Int} (hn:n0%bP=n%bP) (h1:(A+n)*H%bP=c*c%bP) (h2:(n-A)*H%bP=d*d%bP) (hA:A%bP=(c*c-d*d)%bP) (hB:B%bP=(c*d+d*c)%bP) :
  (sqV ((A+n0)*H)/\sqV ((n0-A)*H))/\(S2 (R2.mul (rtV ((A+n0)*H),rtV ((n0-A)*H)) (rtV ((A+n0)*H),rtV ((n0-A)*H))) (A,B)∨S2 (R2.mul (rtV ((A+n0)*H),-rtV ((n0-A)*H)) (rtV ((A+n0)*H),-rtV ((n0-A)*H))) (A,B)):=by
 have g1:=(mdE_mul (mdE_add (p:=bP) (a:=A) (A:=A) rfl hn) (show H%bP=H%bP from rfl)).trans h1
 have g2:=(mdE_mul (mdE_sub (p:=bP) hn (show A%bP=A%bP from rfl)) (show H%bP=H%bP from rfl)).trans h2
 obtain ⟨s1,r1⟩:=rt_of g1
 obtain ⟨s2,r2⟩:=rt_of g2
 refine ⟨⟨s1,s2⟩,?_⟩
 generalize rtV ((A+n0)*H)=x at *
 generalize rtV ((n0-A)*H)=y at *
 have a:=sub0 hA
 have b:=sub0 hB
 have fin:∀ {u v:Int},(u%bP=c%bP/\v%bP=d%bP)∨(u%bP=(-c)%bP/\v%bP=(-d)%bP)->S2 (R2.mul (u,v) (u,v)) (A,B):=fun {u v} h=>by
  rcases h with ⟨hu,hv⟩ | ⟨hu,hv⟩
  ·have U:=sub0 hu
   have V:=sub0 hv
   exact ⟨of_sub0 (lin3 (a:=u+c) (b:=-(v+d)) (c:=-1) U V a (by show u*u-v*v-A=_;grind)),of_sub0 (lin3 (a:=2*v) (b:=2*c) (c:=-1) U V b (by show u*v+v*u-B=_;grind))⟩
  ·have U:=sub0 hu
   have V:=sub0 hv
   exact ⟨of_sub0 (lin3 (a:=u-c) (b:=-(v-d)) (c:=-1) U V a (by show u*u-v*v-A=_;grind)),of_sub0 (lin3 (a:=2*v) (b:=-(2*c)) (c:=-1) U V b (by show u*v+v*u-B=_;grind))⟩
 have ng:∀ {u v:Int},u%bP=(-v)%bP->(-u)%bP=v%bP:=fun {u v} h=>by have:=mdE_neg h;rwa [Int.neg_neg] at this
 have nn:∀ {u v:Int},u%bP=v%bP->(-u)%bP=(-v)%bP:=fun h=>mdE_neg h
 rcases r1 with r1 | r1 <;> rcases r2 with r2 | r2
 ·exact .inl (fin (.inl ⟨r1,r2⟩))
 ·exact .inr (fin (.inl ⟨r1,ng r2⟩))
 ·exact .inr (fin (.inr ⟨r1,nn r2⟩))
 ·exact .inl (fin (.inr ⟨r1,r2⟩))
def kE2Neg (f:FuncId):K:={fn:=f,ext:=false,ins:=[iE2],outs:=[oE2],pre:=fun | [a,b]=>a<bP/\b<bP | _=>False,sem:=fun | [a,b]=>[toE (-ofE a),toE (-ofE b)] | _=>[] }
noncomputable def kTwRoot (f:FuncId):K:={fn:=f,ext:=false,ins:=[iN],outs:=[oN,oB],pre:=fun | [a]=>a<bP | _=>False,sem:=fun | [a]=>[toE (rtV (ofE a)),bj (sqV (ofE a))] | _=>[] }
def kTwLess (f:FuncId):K:={fn:=f,ext:=false,ins:=[iE2],outs:=[oE2],pre:=fun | [a,b]=>a<bP/\b<bP | _=>False,sem:=fun | [a,b]=>[(les2 (ofE a,ofE b)).1,(les2 (ofE a,ofE b)).2] | _=>[] }
open Classical in
noncomputable def root2V (a:E2):List Int:=if isSq2 a then [(rt2 a).1,(rt2 a).2,0] else [0,0,6]
theorem root2V_t {a:E2} (h:isSq2 a):root2V a=[(rt2 a).1,(rt2 a).2,0]:=if_pos h
theorem root2V_f {a:E2} (h:¬ isSq2 a):root2V a=[0,0,6]:=if_neg h
theorem root2V_of {y a:E2} (hy:cn y) (h:S2 (R2.mul y y) a):root2V a=[(les2 y).1,(les2 y).2,0]:=by rw [root2V_t ⟨y,h⟩,rt2_of hy h]
noncomputable def kTwRoot2 (f:FuncId):K:={fn:=f,ext:=false,ins:=[iE2],outs:=[oE2,oI],pre:=fun _=>True,sem:=fun | [a,b]=>root2V (a,b) | _=>[] }
def kTwAdd2 (f:FuncId):K:={fn:=f,ext:=false,ins:=[iE2,iE2],outs:=[oE2],pre:=fun _=>True,sem:=fun | [a,b,c,d]=>[(a+c)%bP,(b+d)%bP] | _=>[] }
def kTwMul2 (f:FuncId):K:={fn:=f,ext:=false,ins:=[iE2,iE2],outs:=[oE2],pre:=fun _=>True,sem:=fun | [a,b,c,d]=>[(a*c-b*d)%bP,(a*d+b*c)%bP] | _=>[] }
noncomputable def kAt2 (f:FuncId):K:={fn:=f,ext:=false,ins:=[iE2],outs:=[.agg lsQ2,oB],pre:=fun _=>True,sem:=fun | [a,b]=>[a,b,(rt2 (side2 (a,b))).1,(rt2 (side2 (a,b))).2,0,bj (isSq2 (side2 (a,b)))] | _=>[] }
def tE2Neg:Tree:=(.req 0 [.var 0]
(.lett 98 .num (.app 0 0 [.var 0])
(.req 0 [.var 1]
(.lett 242 .num (.app 0 0 [.var 1])
(.ret [.var 98,.var 242])))))
theorem law_e2Neg (f1 f:FuncId) (e:Nat->Int) (hp:(kE2Neg f).pre [e 0,e 1]):tE2Neg.says [kENeg f1] ⟨fun ys=>ys=(kE2Neg f).sem [e 0,e 1],[]⟩ e:=by
 obtain ⟨u0,u1⟩:e 0<bP/\e 1<bP:=hp
 refine ⟨u0,fun a1 _=>⟨u1,fun a2 _=>?_⟩⟩
 show [e 98,e 242]=[toE (-ofE (e 0)),toE (-ofE (e 1))]
 rw [show e 98=_ from a1,show e 242=_ from a2];rfl
def tTwRoot:Tree:=(.req 1 []
(.lett 1 .num (.app 1 0 [])
(.req 2 [.lit 1]
(.lett 2 .num (.app 2 0 [.lit 1])
(.req 0 [.var 1,.var 2]
(.lett 3 .num (.app 0 0 [.var 1,.var 2])
(.lett 4 .bit (.app 0 1 [.var 1,.var 2])
(.req 3 [.var 3]
(.lett 101 .num (.app 3 0 [.var 3])
(.req 4 [.var 0,.var 101]
(.lett 149 .num (.app 4 0 [.var 0,.var 101])
(.req 5 [.var 149,.var 149]
(.lett 437 .num (.app 5 0 [.var 149,.var 149])
(.lett 533 .bit (.eqs [((.limb 437 0),(.limb 0 0)),((.limb 437 1),(.limb 0 1)),((.limb 437 2),(.limb 0 2)),((.limb 437 3),(.limb 0 3)),((.limb 437 4),(.limb 0 4)),((.limb 437 5),(.limb 0 5))])
(.ret [.var 149,.var 533])))))))))))))))
theorem law_twRoot (f1 f2 f3 f4 f5 f6 f:FuncId) (e:Nat->Int) (hk:kkHas [.num] [e 0]) (hp:(kTwRoot f).pre [e 0]):tTwRoot.says [kWAdd f1,kMBase f2,kOf f3,kShR2 f4,kEPow f5,kEMul f6] ⟨fun ys=>ys=(kTwRoot f).sem [e 0],[]⟩ e:=by
 have u0:e 0<bP:=hp
 have k0:0<=e 0/\e 0<N384:=hk.1
 show tTwRoot.says _ ⟨fun ys=>ys=[toE (rtV (ofE (e 0))),bj (sqV (ofE (e 0)))],[]⟩ e
 refine ⟨trivial,fun a1 _=>⟨trivial,fun a2 _=>⟨trivial,fun a3 _ a4 _=>⟨trivial,fun a101 _=>⟨u0,fun a149 _=>?_⟩⟩⟩⟩⟩
 have v149:e 149=toE (rtV (ofE (e 0))):=by
  have h:e 149=toE (ofE (e 0)^(e 101).toNat):=a149
  rw [h,show e 101=e 3/4 from a101,show e 3=(e 1+e 2)%N384 from a3,show e 1=bP from a1,show e 2=1 from a2,eR_of]
  exact toE_md (md_self _).symm
 refine ⟨⟨E_lt v149,E_lt v149⟩,fun a437 k437 a533 _=>?_⟩
 have v437:e 437=toE (rtV (ofE (e 0))*rtV (ofE (e 0))):=Emul (show e 437=toE (ofE (e 149)*ofE (e 149)) from a437) v149 v149
 have b533:=c_num a533 k437 k0
 have hsq:e 437=e 0↔sqV (ofE (e 0)):=by
  have h0:=E_of k0.1 u0
  constructor
  ·intro h
   rw [v437] at h
   exact toE_inj (h.trans h0)
  ·intro h
   rw [v437,toE_md h];exact h0.symm
 show [e 149,e 533]=_
 rw [v149,show e 533=bj (sqV (ofE (e 0))) from bj_of (by
  rcases b533 with ⟨h1,h2⟩ | ⟨h1,h2⟩
  ·exact .inl ⟨h1,hsq.1 h2⟩
  ·exact .inr ⟨h1,fun h=>h2 (hsq.2 h)⟩)]
theorem ng_lt {c:Int} (h:0<=c/\c<bP):(-c)%bP<c↔bP/2<c:=by
 have hodd:=bP_odd
 rcases ng_1 h with ⟨a0,a1⟩ | ⟨a0,a1⟩ <;> rw [a1] <;> have:=h.2 <;> clear a1 <;> generalize bP=p at * <;> omega
theorem ng_eq {c:Int} (h:0<=c/\c<bP):(-c)%bP=c↔c=0:=by
 have hodd:=bP_odd
 rcases ng_1 h with ⟨a0,a1⟩ | ⟨a0,a1⟩ <;> rw [a1] <;> have:=h.2 <;> clear a1 <;> generalize bP=p at * <;> omega
theorem cmpV_eq {v a b:Int} (h:v=if a<b then -1 else if a=b then 0 else 1):v=0↔a=b:=by
 rw [h];split
 ·rename_i h1;exact ⟨fun h2=>absurd h2 (by decide),fun h2=>by omega⟩
 ·split
  ·rename_i h2;exact ⟨fun _=>h2,fun _=>rfl⟩
  ·rename_i h2;exact ⟨fun h3=>absurd h3 (by decide),fun h3=>absurd h3 h2⟩
theorem ofE_rng (a:Int):0<=ofE a/\ofE a<bP:=md_lt bP_pos
def tTwLess:Tree:=(.req 0 [.var 0,.var 1]
(.lett 50 .num (.app 0 0 [.var 0,.var 1])
(.lett 51 .num (.app 0 1 [.var 0,.var 1])
(.req 1 [.var 0,.var 1]
(.lett 146 .num (.app 1 0 [.var 0,.var 1])
(.lett 147 .num (.app 1 1 [.var 0,.var 1])
(.req 0 [.var 146,.var 147]
(.lett 194 .num (.app 0 0 [.var 146,.var 147])
(.lett 195 .num (.app 0 1 [.var 146,.var 147])
(.req 2 [.var 195,.var 51]
(.lett 434 (.int .i64) (.app 2 0 [.var 195,.var 51])
(.lett 435 .bit (.cmp .lss (.var 434) (.lit 0))
(.split 435
(.ret [.var 194,.var 195])
(.lett 436 .bit (.cmp .eql (.var 434) (.lit 0))
(.split 436
 (.req 2 [.var 194,.var 50]
 (.lett 437 (.int .i64) (.app 2 0 [.var 194,.var 50])
 (.lett 438 .bit (.cmp .lss (.var 437) (.lit 0))
 (.split 438
 (.ret [.var 194,.var 195])
 (.ret [.var 50,.var 51])))))
 (.ret [.var 50,.var 51]))))))))))))))))
theorem law_twLess (f1 f2 f3 f:FuncId) (e:Nat->Int) (hk:kkHas [.num,.num] [e 0,e 1]) (hp:(kTwLess f).pre [e 0,e 1]):tTwLess.says [kE2From f1,kE2Neg f2,kWCmp f3] ⟨fun ys=>ys=(kTwLess f).sem [e 0,e 1],[]⟩ e:=by
 obtain ⟨u0,u1⟩:e 0<bP/\e 1<bP:=hp
 obtain ⟨A,hA⟩:∃ A,ofE (e 0)=A:=⟨_,rfl⟩
 obtain ⟨B,hB⟩:∃ B,ofE (e 1)=B:=⟨_,rfl⟩
 have ra:=ofE_rng (e 0)
 have rb:=ofE_rng (e 1)
 rw [hA] at ra
 rw [hB] at rb
 show tTwLess.says _ ⟨fun ys=>ys=[(les2 (ofE (e 0),ofE (e 1))).1,(les2 (ofE (e 0),ofE (e 1))).2],[]⟩ e
 rw [hA,hB]
 refine ⟨⟨u0,u1⟩,fun a50 _ a51 _=>⟨⟨u0,u1⟩,fun a146 _ a147 _=>?_⟩⟩
 have v50:e 50=A:=(show e 50=ofE (e 0) from a50).trans hA
 have v51:e 51=B:=(show e 51=ofE (e 1) from a51).trans hB
 have v146:e 146=toE (-A):=by rw [show e 146=toE (-ofE (e 0)) from a146,hA]
 have v147:e 147=toE (-B):=by rw [show e 147=toE (-ofE (e 1)) from a147,hB]
 refine ⟨⟨E_lt v146,E_lt v147⟩,fun a194 _ a195 _=>⟨trivial,fun a434 _ a435 _=>?_⟩⟩
 have v194:e 194=(-A)%bP:=by rw [show e 194=ofE (e 146) from a194,v146,ofE_toE]
 have v195:e 195=(-B)%bP:=by rw [show e 195=ofE (e 147) from a195,v147,ofE_toE]
 have l1:=(cmpV_lt (show e 434=if e 195<e 51 then -1 else if e 195=e 51 then 0 else 1 from a434))
 have l2:=(cmpV_eq (show e 434=if e 195<e 51 then -1 else if e 195=e 51 then 0 else 1 from a434))
 rw [v195,v51,ng_lt rb] at l1
 rw [v195,v51,ng_eq rb] at l2
 have b435:=c_lt a435
 simp only [ev_var,ev_lit] at b435
 have yes:great2 (A,B)->[e 194,e 195]=[(les2 (A,B)).1,(les2 (A,B)).2]:=fun hg=>by
  rw [show les2 (A,B)=ng2 (A,B) from if_pos hg,v194,v195];rfl
 have no:¬ great2 (A,B)->[e 50,e 51]=[(les2 (A,B)).1,(les2 (A,B)).2]:=fun hg=>by
  rw [show les2 (A,B)=(A,B) from if_neg hg,v50,v51]
 refine ⟨fun h=>yes (.inl (l1.1 (b_yes b435 h))),fun h=>?_⟩
 have n1:¬ bP/2<B:=fun hc=>b_no b435 h (l1.2 hc)
 intro a436 _
 have b436:=c_eq a436
 simp only [ev_var,ev_lit] at b436
 refine ⟨fun h=>⟨trivial,fun a437 _ a438 _=>?_⟩,fun h=>no (fun hg=>by
  rcases hg with hg | hg
  ·exact n1 hg
  ·exact b_no b436 h (l2.2 hg.1))⟩
 have z0:=l2.1 (b_yes b436 h)
 have l3:=(cmpV_lt (show e 437=if e 194<e 50 then -1 else if e 194=e 50 then 0 else 1 from a437))
 rw [v194,v50,ng_lt ra] at l3
 have b438:=c_lt a438
 simp only [ev_var,ev_lit] at b438
 exact ⟨fun h=>yes (.inr ⟨z0,l3.1 (b_yes b438 h)⟩),fun h=>no (fun hg=>by
  rcases hg with hg | hg
  ·exact n1 hg
  ·exact b_no b438 h (l3.2 hg.2))⟩
def tTwAdd2:Tree:=(.req 2 [.var 0,.var 1]
(.lett 52 .num (.app 2 0 [.var 0,.var 1])
(.lett 53 .num (.app 2 1 [.var 0,.var 1])
(.req 2 [.var 2,.var 3]
(.lett 148 .num (.app 2 0 [.var 2,.var 3])
(.lett 149 .num (.app 2 1 [.var 2,.var 3])
(.req 1 [.var 52,.var 53,.var 148,.var 149]
(.lett 196 .num (.app 1 0 [.var 52,.var 53,.var 148,.var 149])
(.lett 197 .num (.app 1 1 [.var 52,.var 53,.var 148,.var 149])
(.req 0 [.var 196,.var 197]
(.lett 244 .num (.app 0 0 [.var 196,.var 197])
(.lett 245 .num (.app 0 1 [.var 196,.var 197])
(.ret [.var 244,.var 245])))))))))))))
theorem law_twAdd2 (f1 f2 f3 f:FuncId) (e:Nat->Int):tTwAdd2.says [kE2From f1,kE2Add f2,kE2To f3] ⟨fun ys=>ys=(kTwAdd2 f).sem [e 0,e 1,e 2,e 3],[]⟩ e:=by
 refine ⟨trivial,fun a1 _ a2 _=>⟨trivial,fun a3 _ a4 _=>?_⟩⟩
 have v1:e 52=toE (e 0):=a1
 have v2:e 53=toE (e 1):=a2
 have v3:e 148=toE (e 2):=a3
 have v4:e 149=toE (e 3):=a4
 refine ⟨⟨E_lt v1,E_lt v2,E_lt v3,E_lt v4⟩,fun a5 _ a6 _=>?_⟩
 have v5:e 196=toE (e 0+e 2):=Eadd (show e 196=toE (ofE (e 52)+ofE (e 148)) from a5) v1 v3
 have v6:e 197=toE (e 1+e 3):=Eadd (show e 197=toE (ofE (e 53)+ofE (e 149)) from a6) v2 v4
 refine ⟨⟨E_lt v5,E_lt v6⟩,fun a7 _ a8 _=>?_⟩
 show [e 244,e 245]=[(e 0+e 2)%bP,(e 1+e 3)%bP]
 rw [show e 244=ofE (e 196) from a7,show e 245=ofE (e 197) from a8,v5,v6,ofE_toE,ofE_toE]
def tTwMul2:Tree:=(.req 2 [.var 0,.var 1]
(.lett 52 .num (.app 2 0 [.var 0,.var 1])
(.lett 53 .num (.app 2 1 [.var 0,.var 1])
(.req 2 [.var 2,.var 3]
(.lett 148 .num (.app 2 0 [.var 2,.var 3])
(.lett 149 .num (.app 2 1 [.var 2,.var 3])
(.req 1 [.var 52,.var 53,.var 148,.var 149]
(.lett 196 .num (.app 1 0 [.var 52,.var 53,.var 148,.var 149])
(.lett 197 .num (.app 1 1 [.var 52,.var 53,.var 148,.var 149])
(.req 0 [.var 196,.var 197]
(.lett 244 .num (.app 0 0 [.var 196,.var 197])
(.lett 245 .num (.app 0 1 [.var 196,.var 197])
(.ret [.var 244,.var 245])))))))))))))
theorem law_twMul2 (f1 f2 f3 f:FuncId) (e:Nat->Int):tTwMul2.says [kE2From f1,kE2Mul f2,kE2To f3] ⟨fun ys=>ys=(kTwMul2 f).sem [e 0,e 1,e 2,e 3],[]⟩ e:=by
 refine ⟨trivial,fun a1 _ a2 _=>⟨trivial,fun a3 _ a4 _=>?_⟩⟩
 have v1:e 52=toE (e 0):=a1
 have v2:e 53=toE (e 1):=a2
 have v3:e 148=toE (e 2):=a3
 have v4:e 149=toE (e 3):=a4
 refine ⟨⟨E_lt v1,E_lt v2,E_lt v3,E_lt v4⟩,fun a5 _ a6 _=>?_⟩
 have q:=EQ_mul (x:=e 196) (y:=e 197) (A:=(e 0,e 1)) (C:=(e 2,e 3)) a5 a6 ⟨v1,v2⟩ ⟨v3,v4⟩
 refine ⟨⟨E_lt q.1,E_lt q.2⟩,fun a7 _ a8 _=>?_⟩
 show [e 244,e 245]=[(e 0*e 2-e 1*e 3)%bP,(e 0*e 3+e 1*e 2)%bP]
 rw [show e 244=ofE (e 196) from a7,show e 245=ofE (e 197) from a8,q.1,q.2,ofE_toE,ofE_toE];rfl
theorem rtE {v a X:Int} (h:v=toE (rtV (ofE a))) (ha:a=toE X):v=toE (rtV X):=by rw [h,ha,ofE_toE,rtV_mod]
theorem sqE {v a X:Int} (h:v=bj (sqV (ofE a))) (ha:a=toE X):v=bj (sqV X):=by rw [h,ha,ofE_toE];exact bj_iff (sqV_mod X)
theorem les_toE {v w a b X Y:Int} (h:v=(les2 (ofE a,ofE b)).1) (k:w=(les2 (ofE a,ofE b)).2) (ha:a=toE X) (hb:b=toE Y):v=(les2 (X%bP,Y%bP)).1/\w=(les2 (X%bP,Y%bP)).2:=by
 rw [h,k,ha,hb,ofE_toE,ofE_toE];exact ⟨rfl,rfl⟩
theorem cn_md (a b:Int):cn (a%bP,b%bP):=⟨md_lt bP_pos,md_lt bP_pos⟩
theorem root2V_md {x y:Int} {a:E2} (h:S2 (R2.mul (x,y) (x,y)) a):root2V a=[(les2 (x%bP,y%bP)).1,(les2 (x%bP,y%bP)).2,0]:=root2V_of (cn_md x y) (S2_trans (S2R_mul ⟨md_self _,md_self _⟩ ⟨md_self _,md_self _⟩) h)
theorem zeroE:(0:Int)=toE 0:=toE_0.symm
theorem invB_two:(2*invB 2)%bP=1:=invB_ok two_nz
def tailW (x n1 n2 n3 n4:Nat):Tree:=.req 6 [.var x,.var x] (.lett n1 .num (.app 6 0 [.var x,.var x]) (.req 5 [.var n1] (.lett n2 .num (.app 5 0 [.var n1]) (.req 8 [.var 3,.var n2] (.lett n3 .num (.app 8 0 [.var 3,.var n2]) (.req 2 [.var x,.var n3] (.lett n4 .num (.app 2 0 [.var x,.var n3]) (.lett (n4+1) .num (.app 2 1 [.var x,.var n3]) (.ret [.var n4,.var (n4+1),.lit 0])))))))))
theorem tailW_says {T:List K} {e:Nat->Int} {g2 g5 g6 g8:FuncId} (h2:T[2]?=some (kTwLess g2)) (h5:T[5]?=some (kEInv g5)) (h6:T[6]?=some (kEAdd g6)) (h8:T[8]?=some (kEMul g8)) (x n1 n2 n3 n4:Nat) {A B s:Int} (hs:s*s%bP=(A*A+B*B)%bP) (hB:¬ B%bP=0) (v3:e 3=toE B) (vx:e x=toE (rtV ((A+s)*invB 2))) (hq:sqV ((A+s)*invB 2)):(tailW x n1 n2 n3 n4).says T ⟨fun ys=>ys=root2V (A,B),[]⟩ e:=by
 obtain ⟨t,ht⟩:∃ t,t=rtV ((A+s)*invB 2):=⟨_,rfl⟩
 rw [<- ht] at vx
 refine ⟨by rw [h6];exact ⟨E_lt vx,E_lt vx⟩,fun a1 _=>?_⟩
 simp only [D.ev,h6] at a1
 have v1:e n1=toE (t+t):=Eadd (show e n1=toE (ofE (e x)+ofE (e x)) from a1) vx vx
 refine ⟨by rw [h5];exact E_lt v1,fun a2 _=>?_⟩
 simp only [D.ev,h5] at a2
 have v2:e n2=toE (invB (t+t)):=Epow (show e n2=toE (ofE (e n1)^(bP-2).toNat) from a2) v1
 refine ⟨by rw [h8];exact ⟨E_lt v3,E_lt v2⟩,fun a3 _=>?_⟩
 simp only [D.ev,h8] at a3
 have w3:e n3=toE (B*invB (t+t)):=Emul (show e n3=toE (ofE (e 3)*ofE (e n2)) from a3) v3 v2
 refine ⟨by rw [h2];exact ⟨E_lt vx,E_lt w3⟩,fun a4 _ a5 _=>?_⟩
 simp only [D.ev,h2] at a4 a5
 obtain ⟨r1,r2⟩:=les_toE (show e n4=(les2 (ofE (e x),ofE (e n3))).1 from a4) (show e (n4+1)=(les2 (ofE (e x),ofE (e n3))).2 from a5) vx w3
 show [e n4,e (n4+1),0]=_
 rw [r1,r2]
 refine (root2V_md (gen_root invB_two hs hB (x:=t) (i:=invB (t+t)) ?_ (fun h=>invB_ok h) rfl)).symm
 rw [ht];exact hq
def tTwRoot2:Tree:=(.req 0 [.var 0,.var 1]
(.lett 2 .num (.app 0 0 [.var 0,.var 1])
(.lett 3 .num (.app 0 1 [.var 0,.var 1])
(.lett 4 .bit (.eqs [((.limb 3 0),(.lit 0)),((.limb 3 1),(.lit 0)),((.limb 3 2),(.lit 0)),((.limb 3 3),(.lit 0)),((.limb 3 4),(.lit 0)),((.limb 3 5),(.lit 0))])
(.split 4
(.req 1 [.var 2]
(.lett 5 .num (.app 1 0 [.var 2])
(.lett 6 .bit (.app 1 1 [.var 2])
(.split 6
 (.req 2 [.var 5,.lit 0]
 (.lett 7 .num (.app 2 0 [.var 5,.lit 0])
 (.lett 8 .num (.app 2 1 [.var 5,.lit 0])
 (.ret [.var 7,.var 8,.lit 0]))))
 (.req 3 [.var 2]
 (.lett 7 .num (.app 3 0 [.var 2])
 (.req 1 [.var 7]
 (.lett 8 .num (.app 1 0 [.var 7])
 (.lett 9 .bit (.app 1 1 [.var 7])
 (.req 2 [.lit 0,.var 8]
 (.lett 10 .num (.app 2 0 [.lit 0,.var 8])
 (.lett 11 .num (.app 2 1 [.lit 0,.var 8])
 (.ret [.var 10,.var 11,.lit 0])))))))))))))
(.req 4 [.var 2,.var 3]
(.lett 5 .num (.app 4 0 [.var 2,.var 3])
(.req 1 [.var 5]
(.lett 6 .num (.app 1 0 [.var 5])
(.lett 7 .bit (.app 1 1 [.var 5])
(.lett 8 .bit (.not (.var 7))
(.split 8
 (.ret [.lit 0,.lit 0,.lit 6])
 (.req 7 []
 (.lett 9 .num (.app 7 0 [])
 (.req 7 []
 (.lett 10 .num (.app 7 0 [])
 (.req 6 [.var 9,.var 10]
 (.lett 11 .num (.app 6 0 [.var 9,.var 10])
 (.req 5 [.var 11]
 (.lett 12 .num (.app 5 0 [.var 11])
 (.req 6 [.var 2,.var 6]
 (.lett 157 .num (.app 6 0 [.var 2,.var 6])
 (.req 8 [.var 157,.var 12]
 (.lett 253 .num (.app 8 0 [.var 157,.var 12])
 (.req 1 [.var 253]
 (.lett 301 .num (.app 1 0 [.var 253])
 (.lett 302 .bit (.app 1 1 [.var 253])
 (.split 302
 (.req 6 [.var 301,.var 301]
 (.lett 877 .num (.app 6 0 [.var 301,.var 301])
 (.req 5 [.var 877]
 (.lett 925 .num (.app 5 0 [.var 877])
 (.req 8 [.var 3,.var 925]
 (.lett 973 .num (.app 8 0 [.var 3,.var 925])
 (.req 2 [.var 301,.var 973]
 (.lett 1069 .num (.app 2 0 [.var 301,.var 973])
 (.lett 1070 .num (.app 2 1 [.var 301,.var 973])
 (.ret [.var 1069,.var 1070,.lit 0]))))))))))
 (.req 3 [.var 6]
 (.lett 637 .num (.app 3 0 [.var 6])
 (.req 6 [.var 2,.var 637]
 (.lett 782 .num (.app 6 0 [.var 2,.var 637])
 (.req 8 [.var 782,.var 12]
 (.lett 878 .num (.app 8 0 [.var 782,.var 12])
 (.req 1 [.var 878]
 (.lett 926 .num (.app 1 0 [.var 878])
 (.lett 927 .bit (.app 1 1 [.var 878])
 (.split 927
 (.req 6 [.var 926,.var 926]
 (.lett 1502 .num (.app 6 0 [.var 926,.var 926])
 (.req 5 [.var 1502]
 (.lett 1550 .num (.app 5 0 [.var 1502])
 (.req 8 [.var 3,.var 1550]
 (.lett 1598 .num (.app 8 0 [.var 3,.var 1550])
 (.req 2 [.var 926,.var 1598]
 (.lett 1694 .num (.app 2 0 [.var 926,.var 1598])
 (.lett 1695 .num (.app 2 1 [.var 926,.var 1598])
 (.ret [.var 1694,.var 1695,.lit 0]))))))))))
 (.req 3 [.var 637]
 (.lett 1262 .num (.app 3 0 [.var 637])
 (.ret [.lit 0,.lit 0,.lit 6])))))))))))))))))))))))))))))))))))))))))
theorem law_twRoot2 (f1 f2 f3 f4 f5 f6 f7 f8 f9 f:FuncId) (e:Nat->Int) (hk:kkHas [.num,.num] [e 0,e 1]):tTwRoot2.says [kE2To f1,kTwRoot f2,kTwLess f3,kENeg f4,kE2Norm f5,kEInv f6,kEAdd f7,kEOne f8,kEMul f9] ⟨fun ys=>ys=(kTwRoot2 f).sem [e 0,e 1],[]⟩ e:=by
 show tTwRoot2.says _ ⟨fun ys=>ys=root2V (e 0,e 1),[]⟩ e
 obtain ⟨A,hA⟩:∃ A,e 0=A:=⟨_,rfl⟩
 obtain ⟨B,hB⟩:∃ B,e 1=B:=⟨_,rfl⟩
 rw [hA,hB]
 refine ⟨trivial,fun a2 _ a3 k3 a4 _=>?_⟩
 have v2:e 2=toE A:=by rw [<- hA];exact a2
 have v3:e 3=toE B:=by rw [<- hB];exact a3
 have b4:=c_num0 a4 k3
 rw [v3,toE_zero] at b4
 refine ⟨fun h=>?_,fun h=>?_⟩
 ·have hz:=b_yes b4 h
  refine ⟨E_lt v2,fun a5 _ a6 _=>?_⟩
  have v5:=rtE (show e 5=toE (rtV (ofE (e 2))) from a5) v2
  have v6:=sqE (show e 6=bj (sqV (ofE (e 2))) from a6) v2
  refine ⟨fun h=>?_,fun h=>?_⟩
  ·have hq:=bj_nz v6 h
   refine ⟨⟨E_lt v5,bP_pos⟩,fun a7 _ a8 _=>?_⟩
   obtain ⟨r1,r2⟩:=les_toE (show e 7=(les2 (ofE (e 5),ofE 0)).1 from a7) (show e 8=(les2 (ofE (e 5),ofE 0)).2 from a8) v5 zeroE
   show [e 7,e 8,0]=_
   rw [r1,r2]
   refine (root2V_md ⟨?_,?_⟩).symm
   ·show (rtV A*rtV A-0*0)%bP=A%bP
    rw [Int.mul_zero,Int.sub_zero];exact hq
   ·show (rtV A*0+0*rtV A)%bP=B%bP
    rw [Int.mul_zero,Int.zero_mul,hz];rfl
  ·have hq:=sq_neg (bj_z v6 h)
   refine ⟨E_lt v2,fun a7 _=>?_⟩
   have v7:=Eneg (show e 7=toE (-ofE (e 2)) from a7) v2
   refine ⟨E_lt v7,fun a8 _ a9 _=>?_⟩
   have v8:=rtE (show e 8=toE (rtV (ofE (e 7))) from a8) v7
   refine ⟨⟨bP_pos,E_lt v8⟩,fun a10 _ a11 _=>?_⟩
   obtain ⟨r1,r2⟩:=les_toE (show e 10=(les2 (ofE 0,ofE (e 8))).1 from a10) (show e 11=(les2 (ofE 0,ofE (e 8))).2 from a11) zeroE v8
   show [e 10,e 11,0]=_
   rw [r1,r2]
   have hq:rtV (-A)*rtV (-A)%bP=(-A)%bP:=hq
   generalize rtV (-A)=t at *
   refine (root2V_md ⟨?_,?_⟩).symm
   ·show (0*0-t*t)%bP=A%bP
    have:=mdE_neg hq
    rwa [Int.neg_neg,show -(t*t)=0*0-t*t by omega] at this
   ·show (0*t+t*0)%bP=B%bP
    rw [Int.mul_zero,Int.zero_mul,hz];rfl
 have hB0:=b_no b4 h
 refine ⟨⟨E_lt v2,E_lt v3⟩,fun a5 _=>?_⟩
 have v5:e 5=toE (A*A+B*B):=by
  rw [show e 5=toE (ofE (e 2)*ofE (e 2)+ofE (e 3)*ofE (e 3)) from a5]
  exact toE_md (mdE_add (mdE_mul (E_ofm v2) (E_ofm v2)) (mdE_mul (E_ofm v3) (E_ofm v3)))
 refine ⟨E_lt v5,fun a6 _ a7 _ a8 _=>?_⟩
 have v6:=rtE (show e 6=toE (rtV (ofE (e 5))) from a6) v5
 have v7:=sqE (show e 7=bj (sqV (ofE (e 5))) from a7) v5
 have b8:=c_not a8
 simp only [ev_var] at b8
 refine ⟨fun h=>?_,fun h=>?_⟩
 ·have hq:=bj_z v7 (b_yes b8 h)
  refine (root2V_f (fun hs=>hq ?_)).symm
  obtain ⟨n,c,d,h1,_⟩:=sq2_norm hs invB_two
  exact sq_of h1
 have hq:=bj_nz v7 (b_no b8 h)
 obtain ⟨s,hs⟩:∃ s,s=rtV (A*A+B*B):=⟨_,rfl⟩
 rw [<- hs] at v6
 have hss:s*s%bP=(A*A+B*B)%bP:=by rw [hs];exact hq
 have hss':-s * -s%bP=(A*A+B*B)%bP:=by rw [Int.neg_mul_neg];exact hss
 refine ⟨trivial,fun a9 _=>⟨trivial,fun a10 _=>?_⟩⟩
 have v9:e 9=toE 1:=a9
 have v10:e 10=toE 1:=a10
 refine ⟨⟨E_lt v9,E_lt v10⟩,fun a11 _=>?_⟩
 have v11:=Eadd (show e 11=toE (ofE (e 9)+ofE (e 10)) from a11) v9 v10
 refine ⟨E_lt v11,fun a12 _=>?_⟩
 have v12:e 12=toE (invB 2):=Epow (show e 12=toE (ofE (e 11)^(bP-2).toNat) from a12) v11
 refine ⟨⟨E_lt v2,E_lt v6⟩,fun a157 _=>?_⟩
 have v157:=Eadd (show e 157=toE (ofE (e 2)+ofE (e 6)) from a157) v2 v6
 refine ⟨⟨E_lt v157,E_lt v12⟩,fun a253 _=>?_⟩
 have v253:=Emul (show e 253=toE (ofE (e 157)*ofE (e 12)) from a253) v157 v12
 refine ⟨E_lt v253,fun a301 _ a302 _=>?_⟩
 have v301:=rtE (show e 301=toE (rtV (ofE (e 253))) from a301) v253
 have v302:=sqE (show e 302=bj (sqV (ofE (e 253))) from a302) v253
 refine ⟨fun h=>?_,fun h=>?_⟩
 ·exact tailW_says (T:=[kE2To f1,kTwRoot f2,kTwLess f3,kENeg f4,kE2Norm f5,kEInv f6,kEAdd f7,kEOne f8,kEMul f9]) rfl rfl rfl rfl 301 877 925 973 1069 hss hB0 v3 v301 (bj_nz v302 h)
 have n1:=bj_z v302 h
 refine ⟨E_lt v6,fun a637 _=>?_⟩
 have v637:=Eneg (show e 637=toE (-ofE (e 6)) from a637) v6
 refine ⟨⟨E_lt v2,E_lt v637⟩,fun a782 _=>?_⟩
 have v782:=Eadd (show e 782=toE (ofE (e 2)+ofE (e 637)) from a782) v2 v637
 refine ⟨⟨E_lt v782,E_lt v12⟩,fun a878 _=>?_⟩
 have v878:=Emul (show e 878=toE (ofE (e 782)*ofE (e 12)) from a878) v782 v12
 refine ⟨E_lt v878,fun a926 _ a927 _=>?_⟩
 have v926:=rtE (show e 926=toE (rtV (ofE (e 878))) from a926) v878
 have v927:=sqE (show e 927=bj (sqV (ofE (e 878))) from a927) v878
 refine ⟨fun h=>?_,fun h=>?_⟩
 ·exact tailW_says (T:=[kE2To f1,kTwRoot f2,kTwLess f3,kENeg f4,kE2Norm f5,kEInv f6,kEAdd f7,kEOne f8,kEMul f9]) rfl rfl rfl rfl 926 1502 1550 1598 1694 hss' hB0 v3 v926 (bj_nz v927 h)
 have n2:=bj_z v927 h
 refine ⟨E_lt v637,fun a1262 _=>?_⟩
 refine (root2V_f (fun hq2=>?_)).symm
 obtain ⟨n,c,d,h1,h2,_⟩:=sq2_norm hq2 invB_two
 rcases sq_pm (hss.trans h1) with hn | hn
 ·exact n1 (sq_of ((mdE_mul (mdE_add (p:=bP) (a:=A) (A:=A) rfl hn) rfl).trans h2))
 ·have hn':(-s)%bP=n%bP:=by have:=mdE_neg hn;rwa [Int.neg_neg] at this
  exact n2 (sq_of ((mdE_mul (mdE_add (p:=bP) (a:=A) (A:=A) rfl hn') rfl).trans h2))
def tAt2:Tree:=(.req 0 [.lit 4]
(.lett 2 .num (.app 0 0 [.lit 4])
(.req 0 [.lit 4]
(.lett 3 .num (.app 0 0 [.lit 4])
(.req 3 [.var 0,.var 1,.var 0,.var 1]
(.lett 100 .num (.app 3 0 [.var 0,.var 1,.var 0,.var 1])
(.lett 101 .num (.app 3 1 [.var 0,.var 1,.var 0,.var 1])
(.req 3 [.var 100,.var 101,.var 0,.var 1]
(.lett 196 .num (.app 3 0 [.var 100,.var 101,.var 0,.var 1])
(.lett 197 .num (.app 3 1 [.var 100,.var 101,.var 0,.var 1])
(.req 2 [.var 196,.var 197,.var 2,.var 3]
(.lett 292 .num (.app 2 0 [.var 196,.var 197,.var 2,.var 3])
(.lett 293 .num (.app 2 1 [.var 196,.var 197,.var 2,.var 3])
(.req 1 [.var 292,.var 293]
(.lett 340 .num (.app 1 0 [.var 292,.var 293])
(.lett 341 .num (.app 1 1 [.var 292,.var 293])
(.lett 342 (.int .i64) (.app 1 2 [.var 292,.var 293])
(.lett 676 .bit (.cmp .eql (.var 342) (.lit 0))
(.ret [.var 0,.var 1,.var 340,.var 341,.lit 0,.var 676])))))))))))))))))))
theorem law_at2 (f1 f2 f3 f4 f:FuncId) (e:Nat->Int):tAt2.says [kOf f1,kTwRoot2 f2,kTwAdd2 f3,kTwMul2 f4] ⟨fun ys=>ys=(kAt2 f).sem [e 0,e 1],[]⟩ e:=by
 show tAt2.says _ ⟨fun ys=>ys=[e 0,e 1,(rt2 (side2 (e 0,e 1))).1,(rt2 (side2 (e 0,e 1))).2,0,bj (isSq2 (side2 (e 0,e 1)))],[]⟩ e
 refine ⟨trivial,fun a2 _=>⟨trivial,fun a3 _=>⟨trivial,fun a4 _ a5 _=>⟨trivial,fun a6 _ a7 _=>⟨trivial,fun a8 _ a9 _=>⟨trivial,fun a10 _ a11 _ a12 _ a13 _=>?_⟩⟩⟩⟩⟩⟩
 have q1:S2 (e 100,e 101) (R2.mul (e 0,e 1) (e 0,e 1)):=⟨by rw [show e 100=_ from a4];exact md_self _,by rw [show e 101=_ from a5];exact md_self _⟩
 have q2:S2 (e 196,e 197) (R2.mul (R2.mul (e 0,e 1) (e 0,e 1)) (e 0,e 1)):=S2_trans ⟨by rw [show e 196=_ from a6];exact md_self _,by rw [show e 197=_ from a7];exact md_self _⟩ (S2R_mul q1 (S2_refl _))
 have q3:S2 (e 292,e 293) (side2 (e 0,e 1)):=by
  refine S2_trans (b:=R2.add (e 196,e 197) (e 2,e 3)) ⟨by rw [show e 292=_ from a8];exact md_self _,by rw [show e 293=_ from a9];exact md_self _⟩ ?_
  rw [show e 2=4 from a2,show e 3=4 from a3]
  exact S2R_add q2 (S2_refl _)
 obtain ⟨r1,r2⟩:=rt2_S q3
 have b13:=c_eq a13
 simp only [ev_var,ev_lit] at b13
 have hv:[e 340,e 341,e 342]=root2V (e 292,e 293):=by
  have hl:∃ a b c,root2V (e 292,e 293)=[a,b,c]:=by
   by_cases h:isSq2 (e 292,e 293)
   ·exact ⟨_,_,_,root2V_t h⟩
   ·exact ⟨_,_,_,root2V_f h⟩
  rw [show e 340=(root2V (e 292,e 293)).getD 0 0 from a10,show e 341=(root2V (e 292,e 293)).getD 1 0 from a11,show e 342=(root2V (e 292,e 293)).getD 2 0 from a12]
  obtain ⟨a,b,c,h⟩:=hl
  rw [h];rfl
 show [e 0,e 1,e 340,e 341,0,e 676]=_
 by_cases h:isSq2 (side2 (e 0,e 1))
 ·rw [root2V_t (r2.2 h),r1] at hv
  injection hv with h1 hv
  injection hv with h2 hv
  injection hv with h3 hv
  rw [h1,h2,bj_t h]
  rcases b13 with ⟨g,_⟩ | ⟨_,g⟩
  ·rw [g]
  ·exact absurd h3 g
 ·rw [root2V_f (fun hc=>h (r2.1 hc))] at hv
  injection hv with h1 hv
  injection hv with h2 hv
  injection hv with h3 hv
  rw [rt2_no h,bj_f h,h1,h2]
  rcases b13 with ⟨_,g⟩ | ⟨g,_⟩
  ·rw [h3] at g;exact absurd g (by decide)
  ·rw [g]
def hP:Int:=(bP+1)/2
theorem hP_two:(2*hP)%bP=1:=by decide
theorem hP_of:(bP+1)%N384/2^(1:Int).toNat=hP:=by decide +kernel
noncomputable def kR3Root1 (f:FuncId):K:={fn:=f,ext:=false,ins:=[iN],outs:=[oN,oB],pre:=fun | [a]=>a<bP | _=>False,sem:=fun | [a]=>[rtV a,bj (sqV a)] | _=>[] }
def kR3Half (f:FuncId):K:={fn:=f,ext:=false,ins:=[iN],outs:=[oN],pre:=fun | [a]=>a<bP | _=>False,sem:=fun | [a]=>[a*hP%bP] | _=>[] }
def kR3Less (f:FuncId):K:={fn:=f,ext:=false,ins:=[iE2],outs:=[oE2],pre:=fun | [a,b]=>a<bP/\b<bP | _=>False,sem:=fun | [a,b]=>[(les2 (a,b)).1,(les2 (a,b)).2] | _=>[] }
open Classical in
noncomputable def root2R (a:E2):List Int:=if isSq2 a then [(rt2 a).1,(rt2 a).2,1] else [0,0,0]
theorem root2R_t {a:E2} (h:isSq2 a):root2R a=[(rt2 a).1,(rt2 a).2,1]:=if_pos h
theorem root2R_f {a:E2} (h:¬ isSq2 a):root2R a=[0,0,0]:=if_neg h
theorem root2R_of {y a:E2} (hy:cn y) (h:S2 (R2.mul y y) a):root2R a=[(les2 y).1,(les2 y).2,1]:=by rw [root2R_t ⟨y,h⟩,rt2_of hy h]
noncomputable def kR3Root2 (f:FuncId):K:={fn:=f,ext:=false,ins:=[iE2],outs:=[oE2,oB],pre:=fun | [a,b]=>a<bP/\b<bP | _=>False,sem:=fun | [a,b]=>root2R (a,b) | _=>[] }
noncomputable def kGreat2 (f:FuncId):K:={fn:=f,ext:=false,ins:=[iE2],outs:=[oB],pre:=fun _=>True,sem:=fun | [a,b]=>[bj (great2 (a,b))] | _=>[] }
def tR3Root1:Tree:=(.req 0 []
(.lett 1 .num (.app 0 0 [])
(.lett 2 (.int .u64) (.app 0 1 [])
(.lett 3 .num (.app 0 2 [])
(.req 1 [.var 1,.lit 1]
(.lett 4 .num (.app 1 0 [.var 1,.lit 1])
(.lett 5 .bit (.app 1 1 [.var 1,.lit 1])
(.req 2 [.var 4]
(.lett 150 .num (.app 2 0 [.var 4])
(.req 3 [.var 1,.var 2,.var 3,.var 0,.var 150]
(.lett 198 .num (.app 3 0 [.var 1,.var 2,.var 3,.var 0,.var 150])
(.req 4 [.var 1,.var 2,.var 3,.var 198,.var 198]
(.lett 534 .num (.app 4 0 [.var 1,.var 2,.var 3,.var 198,.var 198])
(.lett 630 .bit (.eqs [((.limb 534 0),(.limb 0 0)),((.limb 534 1),(.limb 0 1)),((.limb 534 2),(.limb 0 2)),((.limb 534 3),(.limb 0 3)),((.limb 534 4),(.limb 0 4)),((.limb 534 5),(.limb 0 5))])
(.ret [.var 198,.var 630])))))))))))))))
theorem law_r3Root1 (f1 f2 f3 f4 f5 f:FuncId) (e:Nat->Int) (hk:kkHas [.num] [e 0]) (hp:(kR3Root1 f).pre [e 0]):tR3Root1.says [kRP f1,kWAdd f2,kShR 2 f3,kFPow f4,kFMul f5] ⟨fun ys=>ys=(kR3Root1 f).sem [e 0],[]⟩ e:=by
 have u0:e 0<bP:=hp
 have k0:0<=e 0/\e 0<N384:=hk.1
 show tR3Root1.says _ ⟨fun ys=>ys=[rtV (e 0),bj (sqV (e 0))],[]⟩ e
 refine ⟨trivial,fun a1 _ a2 _ a3 _=>⟨trivial,fun a4 _ a5 _=>⟨trivial,fun a150 _=>?_⟩⟩⟩
 have q1:e 1=bP:=a1
 have hg:=F_good q1 (show e 2=lowP from a2) (show e 3=sqP from a3)
 refine ⟨⟨hg,by show e 0<e 1;rw [q1];exact u0⟩,fun a198 _=>?_⟩
 have v198:e 198=rtV (e 0):=by
  rw [show e 198=e 0^(e 150).toNat%e 1 from a198,show e 150=e 4/2^(2:Int).toNat from a150,show e 4=(e 1+1)%N384 from a4,q1,eR_2];rfl
 have hr:=rt_rng (e 0)
 refine ⟨⟨hg,.inl (by show e 198<e 1;rw [q1,v198];exact hr.2)⟩,fun a534 k534 a630 _=>?_⟩
 have v534:e 534=rtV (e 0)*rtV (e 0)%bP:=by rw [show e 534=e 198*e 198%e 1 from a534,v198,q1]
 have b630:=c_num a630 k534 k0
 have hsq:e 534=e 0↔sqV (e 0):=by unfold sqV;rw [v534,Int.emod_eq_of_lt k0.1 u0]
 show [e 198,e 630]=_
 rw [v198,show e 630=bj (sqV (e 0)) from bj_of (by
  rcases b630 with ⟨h1,h2⟩ | ⟨h1,h2⟩
  ·exact .inl ⟨h1,hsq.1 h2⟩
  ·exact .inr ⟨h1,fun h=>h2 (hsq.2 h)⟩)]
def tR3Half:Tree:=(.req 0 []
(.lett 1 .num (.app 0 0 [])
(.lett 2 (.int .u64) (.app 0 1 [])
(.lett 3 .num (.app 0 2 [])
(.req 1 [.var 1,.lit 1]
(.lett 4 .num (.app 1 0 [.var 1,.lit 1])
(.lett 5 .bit (.app 1 1 [.var 1,.lit 1])
(.req 2 [.var 4]
(.lett 150 .num (.app 2 0 [.var 4])
(.req 3 [.var 1,.var 2,.var 3,.var 0,.var 150]
(.lett 198 .num (.app 3 0 [.var 1,.var 2,.var 3,.var 0,.var 150])
(.ret [.var 198]))))))))))))
theorem law_r3Half (f1 f2 f3 f4 f:FuncId) (e:Nat->Int) (hp:(kR3Half f).pre [e 0]):tR3Half.says [kRP f1,kWAdd f2,kShR 1 f3,kFMul f4] ⟨fun ys=>ys=(kR3Half f).sem [e 0],[]⟩ e:=by
 have u0:e 0<bP:=hp
 refine ⟨trivial,fun a1 _ a2 _ a3 _=>⟨trivial,fun a4 _ a5 _=>⟨trivial,fun a150 _=>?_⟩⟩⟩
 have q1:e 1=bP:=a1
 have hg:=F_good q1 (show e 2=lowP from a2) (show e 3=sqP from a3)
 refine ⟨⟨hg,.inl (by show e 0<e 1;rw [q1];exact u0)⟩,fun a198 _=>?_⟩
 show [e 198]=[e 0*hP%bP]
 rw [show e 198=e 0*e 150%e 1 from a198,show e 150=e 4/2^(1:Int).toNat from a150,show e 4=(e 1+1)%N384 from a4,q1,hP_of]
def tR3Less:Tree:=(.req 0 [.var 0,.var 1]
(.lett 2 .num (.app 0 0 [.var 0,.var 1])
(.lett 3 .num (.app 0 1 [.var 0,.var 1])
(.req 1 [.var 1,.var 3]
(.lett 4 (.int .i64) (.app 1 0 [.var 1,.var 3])
(.lett 5 .bit (.cmp .eql (.var 4) (.lit 0))
(.split 5
(.req 1 [.var 0,.var 2]
(.lett 6 (.int .i64) (.app 1 0 [.var 0,.var 2])
(.lett 7 .bit (.cmp .gtr (.var 6) (.lit 0))
(.split 7
 (.ret [.var 2,.var 3])
 (.ret [.var 0,.var 1])))))
(.lett 6 .bit (.cmp .gtr (.var 4) (.lit 0))
(.split 6
 (.ret [.var 2,.var 3])
 (.ret [.var 0,.var 1]))))))))))
theorem law_r3Less (f1 f2 f:FuncId) (e:Nat->Int) (hk:kkHas [.num,.num] [e 0,e 1]) (hp:(kR3Less f).pre [e 0,e 1]):tR3Less.says [kRNeg2 f1,kWCmp f2] ⟨fun ys=>ys=(kR3Less f).sem [e 0,e 1],[]⟩ e:=by
 obtain ⟨u0,u1⟩:e 0<bP/\e 1<bP:=hp
 have ra:0<=e 0/\e 0<bP:=⟨hk.1.1,u0⟩
 have rb:0<=e 1/\e 1<bP:=⟨hk.2.1.1,u1⟩
 show tR3Less.says _ ⟨fun ys=>ys=[(les2 (e 0,e 1)).1,(les2 (e 0,e 1)).2],[]⟩ e
 refine ⟨⟨u0,u1⟩,fun a2 _ a3 _=>⟨trivial,fun a4 _ a5 _=>?_⟩⟩
 have v2:e 2=(-e 0)%bP:=a2
 have v3:e 3=(-e 1)%bP:=a3
 have l1:=(cmpV_gt (show e 4=if e 1<e 3 then -1 else if e 1=e 3 then 0 else 1 from a4))
 have l2:=(cmpV_eq (show e 4=if e 1<e 3 then -1 else if e 1=e 3 then 0 else 1 from a4))
 rw [v3,ng_lt rb] at l1
 rw [v3,eq_comm (a:=e 1),ng_eq rb] at l2
 have b5:=c_eq a5
 simp only [ev_var,ev_lit] at b5
 have yes:great2 (e 0,e 1)->[e 2,e 3]=[(les2 (e 0,e 1)).1,(les2 (e 0,e 1)).2]:=fun hg=>by
  rw [show les2 (e 0,e 1)=ng2 (e 0,e 1) from if_pos hg,v2,v3];rfl
 have no:¬ great2 (e 0,e 1)->[e 0,e 1]=[(les2 (e 0,e 1)).1,(les2 (e 0,e 1)).2]:=fun hg=>by
  rw [show les2 (e 0,e 1)=(e 0,e 1) from if_neg hg]
 refine ⟨fun h=>⟨trivial,fun a6 _ a7 _=>?_⟩,fun h=>?_⟩
 ·have z0:=l2.1 (b_yes b5 h)
  have l3:=(cmpV_gt (show e 6=if e 0<e 2 then -1 else if e 0=e 2 then 0 else 1 from a6))
  rw [v2,ng_lt ra] at l3
  have b7:=c_gt a7
  simp only [ev_var,ev_lit] at b7
  refine ⟨fun h=>yes (.inr ⟨z0,l3.1 (b_yes b7 h)⟩),fun h=>no (fun hg=>?_)⟩
  rcases hg with hg | hg
  ·have hg:bP/2<e 1:=hg
   have:=bP_pos
   rw [z0] at hg
   exact absurd hg (by decide)
  ·exact b_no b7 h (l3.2 hg.2)
 ·intro a6 _
  have b6:=c_gt a6
  simp only [ev_var,ev_lit] at b6
  refine ⟨fun h=>yes (.inl (l1.1 (b_yes b6 h))),fun h'=>no (fun hg=>?_)⟩
  rcases hg with hg | hg
  ·exact b_no b6 h' (l1.2 hg)
  ·exact b_no b5 h (l2.2 hg.1)
def tAbove2:Tree:=(.req 0 [.var 1]
(.lett 2 .bit (.app 0 0 [.var 1])
(.split 2
(.ret [.lit 1])
(.lett 3 .bit (.eqs [((.limb 1 0),(.lit 0)),((.limb 1 1),(.lit 0)),((.limb 1 2),(.lit 0)),((.limb 1 3),(.lit 0)),((.limb 1 4),(.lit 0)),((.limb 1 5),(.lit 0))])
(.split 3
 (.req 0 [.var 0]
 (.lett 4 .bit (.app 0 0 [.var 0])
 (.ret [.var 4])))
 (.ret [.lit 0]))))))
theorem law_great2 (f1 f:FuncId) (e:Nat->Int) (hk:kkHas [.num,.num] [e 0,e 1]):tAbove2.says [kAbove f1] ⟨fun ys=>ys=(kGreat2 f).sem [e 0,e 1],[]⟩ e:=by
 show tAbove2.says _ ⟨fun ys=>ys=[bj (great2 (e 0,e 1))],[]⟩ e
 refine ⟨trivial,fun a2 _=>?_⟩
 have v2:e 2=bj (bP/2<e 1):=a2
 refine ⟨fun h=>?_,fun h=>?_⟩
 ·show [(1:Int)]=_
  rw [bj_t (.inl (bj_nz v2 h))]
 have n1:=bj_z v2 h
 intro a3 _
 have b3:=c_num0 a3 hk.2.1
 refine ⟨fun h=>⟨trivial,fun a4 _=>?_⟩,fun h=>?_⟩
 ·have z:=b_yes b3 h
  show [e 4]=_
  rw [show e 4=bj (bP/2<e 0) from a4]
  exact congrArg (fun x=>[x]) (bj_iff ⟨fun h=>.inr ⟨z,h⟩,fun h=>h.elim (fun h=>absurd h n1) (fun h=>h.2)⟩)
 ·show [(0:Int)]=_
  rw [bj_f (fun hg=>hg.elim (fun h=>n1 h) (fun hg=>b_no b3 h hg.1))]
def tR5Root2:Tree:=(.req 0 [.var 0,.var 1]
(.lett 2 .num (.app 0 0 [.var 0,.var 1])
(.lett 3 .num (.app 0 1 [.var 0,.var 1])
(.lett 4 .bit (.app 0 2 [.var 0,.var 1])
(.req 1 [.var 2,.var 3]
(.lett 5 .bit (.app 1 0 [.var 2,.var 3])
(.split 5
(.req 2 [.var 2,.var 3]
(.lett 6 .num (.app 2 0 [.var 2,.var 3])
(.lett 7 .num (.app 2 1 [.var 2,.var 3])
(.ret [.var 6,.var 7,.var 4]))))
(.ret [.var 2,.var 3,.var 4]))))))))
theorem law_r5Root2 (f1 f2 f3 f:FuncId) (e:Nat->Int) (hp:(kR3Root2 f).pre [e 0,e 1]):tR5Root2.says [kR3Root2 f1,kGreat2 f2,kRNeg2 f3] ⟨fun ys=>ys=(kR3Root2 f).sem [e 0,e 1],[]⟩ e:=by
 show tR5Root2.says _ ⟨fun ys=>ys=root2R (e 0,e 1),[]⟩ e
 refine ⟨hp,fun a2 _ a3 _ a4 _=>⟨trivial,fun a5 _=>?_⟩⟩
 have hv:[e 2,e 3,e 4]=root2R (e 0,e 1):=by
  have hl:∃ a b c,root2R (e 0,e 1)=[a,b,c]:=by
   by_cases h:isSq2 (e 0,e 1)
   ·exact ⟨_,_,_,root2R_t h⟩
   ·exact ⟨_,_,_,root2R_f h⟩
  rw [show e 2=(root2R (e 0,e 1)).getD 0 0 from a2,show e 3=(root2R (e 0,e 1)).getD 1 0 from a3,show e 4=(root2R (e 0,e 1)).getD 2 0 from a4]
  obtain ⟨a,b,c,h⟩:=hl
  rw [h];rfl
 have v5:e 5=bj (great2 (e 2,e 3)):=a5
 have hn:¬ great2 (e 2,e 3):=by
  by_cases h:isSq2 (e 0,e 1)
  ·rw [root2R_t h] at hv
   injection hv with h1 hv
   injection hv with h2 hv
   rw [h1,h2];exact rt2_not _
  ·rw [root2R_f h] at hv
   injection hv with h1 hv
   injection hv with h2 hv
   rw [h1,h2];decide
 exact ⟨fun h=>absurd (bj_nz v5 h) hn,fun _=>hv⟩
def flag2 (c d z:Int):Int:=if z=0 then (if great2 (c,d) then 160 else 128) else 192
def bytes2V (a b c d z:Int):List Int:=(bytesV b++bytesV a).set 0 (byteAt b 47+flag2 c d z)
open Classical in
noncomputable def bytesR2 (a b c d z:Int):List Int:=if onV2 a b c d z then [enc (bytes2V a b c d z),0] else [0,5]
theorem bytesR2_t {a b c d z:Int} (h:onV2 a b c d z):bytesR2 a b c d z=[enc (bytes2V a b c d z),0]:=if_pos h
theorem bytesR2_f {a b c d z:Int} (h:¬ onV2 a b c d z):bytesR2 a b c d z=[0,5]:=if_neg h
noncomputable def kBytes2 (te:TypeId) (f:FuncId):K:={fn:=f,ext:=false,ins:=[.agg lsQ2],outs:=[.lst te (.int .u8),oI],pre:=fun _=>True,sem:=fun | [a,b,c,d,z]=>bytesR2 a b c d z | _=>[] }
def kRBytes2 (te:TypeId) (f:FuncId):K:={fn:=f,ext:=false,ins:=[.agg lsQ2],outs:=[.lst te (.int .u8)],pre:=fun | [_,b,_,_,_]=>b<bP | _=>False,sem:=fun | [a,b,c,d,z]=>[enc (bytes2V a b c d z)] | _=>[] }
theorem cat_len (a b:Int):(bytesV b++bytesV a).length=96:=by rw [List.length_append,bytesV_len,bytesV_len]
theorem cat_0 (a b:Int):(bytesV b++bytesV a).getD 0 0=byteAt b 47:=by
 rw [<- bytesV_0 b,List.getD_eq_getElem?_getD,List.getD_eq_getElem?_getD,List.getElem?_append_left (by rw [bytesV_len];decide)]
def tBytes2:Tree:=(.req 0 [.var 0,.var 1,.var 2,.var 3,.var 4]
(.lett 5 .bit (.app 0 0 [.var 0,.var 1,.var 2,.var 3,.var 4])
(.lett 6 .bit (.not (.var 5))
(.split 6
(.ret [.lit 0,.lit 5])
(.req 1 [.var 1]
(.lett 151 (.lst (.int .u8)) (.app 1 0 [.var 1])
(.req 1 [.var 0]
(.lett 343 (.lst (.int .u8)) (.app 1 0 [.var 0])
(.lett 391 (.int .i64) (.llen (.var 151))
(.lett 392 .bit (.cmp .lss (.var 391) (.lit 2147483648))
(.lett 393 (.int .i64) (.llen (.var 343))
(.lett 394 .bit (.cmp .lss (.var 393) (.lit 2147483648))
(.nz (.var 392)
(.nz (.var 394)
(.lett 395 (.lst (.int .u8)) (.lcat (.var 151) (.var 343))
(.req 2 [.var 2,.var 3]
(.lett 631 .bit (.app 2 0 [.var 2,.var 3])
(.lett 823 (.int .i64) (.llen (.var 395))
(.lett 824 .bit (.cmp .leq (.lit 0) (.lit 0))
(.lett 825 .bit (.cmp .lss (.lit 0) (.var 823))
(.nz (.var 824)
(.nz (.var 825)
(.lett 826 (.int .u8) (.lget (.var 395) (.lit 0))
(.lett 827 (.int .u8) (.bin .or .u8 (.var 826) (.lit 128))
(.lett 828 (.int .i64) (.llen (.var 395))
(.lett 829 .bit (.cmp .leq (.lit 0) (.lit 0))
(.lett 830 .bit (.cmp .lss (.lit 0) (.var 828))
(.nz (.var 829)
(.nz (.var 830)
(.lett 831 (.lst (.int .u8)) (.lput (.var 395) (.lit 0) (.var 827))
(.split 4
 (.lett 832 (.int .i64) (.llen (.var 395))
 (.lett 833 .bit (.cmp .leq (.lit 0) (.lit 0))
 (.lett 834 .bit (.cmp .lss (.lit 0) (.var 832))
 (.nz (.var 833)
 (.nz (.var 834)
 (.lett 835 (.int .u8) (.lget (.var 831) (.lit 0))
 (.lett 836 (.int .u8) (.bin .or .u8 (.var 835) (.lit 64))
 (.lett 837 (.int .i64) (.llen (.var 395))
 (.lett 838 .bit (.cmp .leq (.lit 0) (.lit 0))
 (.lett 839 .bit (.cmp .lss (.lit 0) (.var 837))
 (.nz (.var 838)
 (.nz (.var 839)
 (.lett 840 (.lst (.int .u8)) (.lput (.var 831) (.lit 0) (.var 836))
 (.ret [.var 840,.lit 0]))))))))))))))
 (.split 631
 (.lett 832 (.int .i64) (.llen (.var 395))
 (.lett 833 .bit (.cmp .leq (.lit 0) (.lit 0))
 (.lett 834 .bit (.cmp .lss (.lit 0) (.var 832))
 (.nz (.var 833)
 (.nz (.var 834)
 (.lett 835 (.int .u8) (.lget (.var 831) (.lit 0))
 (.lett 836 (.int .u8) (.bin .or .u8 (.var 835) (.lit 32))
 (.lett 837 (.int .i64) (.llen (.var 395))
 (.lett 838 .bit (.cmp .leq (.lit 0) (.lit 0))
 (.lett 839 .bit (.cmp .lss (.lit 0) (.var 837))
 (.nz (.var 838)
 (.nz (.var 839)
 (.lett 840 (.lst (.int .u8)) (.lput (.var 831) (.lit 0) (.var 836))
 (.ret [.var 840,.lit 0]))))))))))))))
 (.ret [.var 831,.lit 0])))))))))))))))))))))))))))))))))
theorem law_bytes2 (te:TypeId) (f1 f2 f3 f:FuncId) (e:Nat->Int) (hk:kkHas [.num,.num,.num,.num,.bit] [e 0,e 1,e 2,e 3,e 4]):tBytes2.says [kCheck2 f1,kWBytes te f2,kGreat2 f3] ⟨fun ys=>ys=(kBytes2 te f).sem [e 0,e 1,e 2,e 3,e 4],[]⟩ e:=by
 have h1:0<=e 1:=hk.2.1.1
 show tBytes2.says _ ⟨fun ys=>ys=bytesR2 (e 0) (e 1) (e 2) (e 3) (e 4),[]⟩ e
 refine ⟨trivial,fun a5 _ a6 _=>?_⟩
 have v5:e 5=bj (onV2 (e 0) (e 1) (e 2) (e 3) (e 4)):=a5
 have b6:=c_not a6
 simp only [ev_var] at b6
 refine ⟨fun h=>?_,fun h=>?_⟩
 ·rw [bytesR2_f (bj_z v5 (b_yes b6 h))];rfl
 have hon:=bj_nz v5 (b_no b6 h)
 rw [bytesR2_t hon]
 have ht:=top_byte h1 hon.1.1.2
 have ho:=or8 ht
 refine ⟨trivial,fun a151 _=>⟨trivial,fun a343 _ a391 _ a392 _ a393 _ a394 _=>?_⟩⟩
 have d151:dec (e 151)=bytesV (e 1):=by rw [show e 151=enc (bytesV (e 1)) from a151,dec_enc]
 have d343:dec (e 343)=bytesV (e 0):=by rw [show e 343=enc (bytesV (e 0)) from a343,dec_enc]
 have v391:e 391=48:=by rw [show e 391=((dec (e 151)).length:Int) from a391,d151,bytesV_len];rfl
 have v393:e 393=48:=by rw [show e 393=((dec (e 343)).length:Int) from a393,d343,bytesV_len];rfl
 refine ⟨lt_nz a392 (by show e 391<2147483648;omega),lt_nz a394 (by show e 393<2147483648;omega),fun a395 _=>⟨trivial,fun a631 _ a823 _ a824 _ a825 _=>?_⟩⟩
 have d395:dec (e 395)=bytesV (e 1)++bytesV (e 0):=by rw [show e 395=enc (dec (e 151)++dec (e 343)) from a395,dec_enc,d151,d343]
 have v631:e 631=bj (great2 (e 2,e 3)):=a631
 have hlen:∀ {v:Int},v=((dec (e 395)).length:Int)->0<v:=fun h=>by rw [h,d395,cat_len];decide
 have hl0:0<(bytesV (e 1)++bytesV (e 0)).length:=by rw [cat_len];decide
 refine ⟨bit_nz a824 (Int.le_refl _),lt_nz a825 (hlen a823),fun a826 _ a827 _ a828 _ a829 _ a830 _=>⟨bit_nz a829 (Int.le_refl _),lt_nz a830 (hlen a828),fun a831 _=>?_⟩⟩
 have v826:e 826=byteAt (e 1) 47:=by rw [show e 826=(dec (e 395)).getD 0 0 from a826,d395,cat_0]
 have v827:e 827=byteAt (e 1) 47+128:=by rw [show e 827=binE .or .u8 (e 826) 128 from a827,v826,ho.1]
 have q831:e 831=enc ((bytesV (e 1)++bytesV (e 0)).set 0 (byteAt (e 1) 47+128)):=by rw [show e 831=enc ((dec (e 395)).set 0 (e 827)) from a831,d395,v827]
 have d831:=(congrArg dec q831).trans (dec_enc _)
 refine ⟨fun h=>?_,fun h=>⟨fun h2=>?_,fun h2=>?_⟩⟩
 ·intro a832 _ a833 _ a834 _
  refine ⟨bit_nz a833 (Int.le_refl _),lt_nz a834 (hlen a832),fun a835 _ a836 _ a837 _ a838 _ a839 _=>⟨bit_nz a838 (Int.le_refl _),lt_nz a839 (hlen a837),fun a840 _=>?_⟩⟩
  have v836:e 836=byteAt (e 1) 47+192:=by rw [show e 836=binE .or .u8 (e 835) 64 from a836,show e 835=(dec (e 831)).getD 0 0 from a835,d831,getD_set0 hl0,ho.2.1]
  show [e 840,0]=[enc (bytes2V (e 0) (e 1) (e 2) (e 3) (e 4)),0]
  rw [show e 840=enc ((dec (e 831)).set 0 (e 836)) from a840,d831,v836,set_0]
  unfold bytes2V flag2
  rw [if_neg h]
 ·intro a832 _ a833 _ a834 _
  refine ⟨bit_nz a833 (Int.le_refl _),lt_nz a834 (hlen a832),fun a835 _ a836 _ a837 _ a838 _ a839 _=>⟨bit_nz a838 (Int.le_refl _),lt_nz a839 (hlen a837),fun a840 _=>?_⟩⟩
  have v836:e 836=byteAt (e 1) 47+160:=by rw [show e 836=binE .or .u8 (e 835) 32 from a836,show e 835=(dec (e 831)).getD 0 0 from a835,d831,getD_set0 hl0,ho.2.2.1]
  show [e 840,0]=[enc (bytes2V (e 0) (e 1) (e 2) (e 3) (e 4)),0]
  rw [show e 840=enc ((dec (e 831)).set 0 (e 836)) from a840,d831,v836,set_0]
  unfold bytes2V flag2
  rw [if_pos h,if_pos (bj_nz v631 h2)]
 ·show [e 831,0]=[enc (bytes2V (e 0) (e 1) (e 2) (e 3) (e 4)),0]
  rw [q831]
  unfold bytes2V flag2
  rw [if_pos h,if_neg (bj_z v631 h2)]
def tR5Bytes2:Tree:=(.req 0 [.var 1]
(.lett 149 (.lst (.int .u8)) (.app 0 0 [.var 1])
(.req 0 [.var 0]
(.lett 341 (.lst (.int .u8)) (.app 0 0 [.var 0])
(.lett 485 (.int .i64) (.llen (.var 149))
(.lett 486 .bit (.cmp .lss (.var 485) (.lit 2147483648))
(.lett 487 (.int .i64) (.llen (.var 341))
(.lett 488 .bit (.cmp .lss (.var 487) (.lit 2147483648))
(.nz (.var 486)
(.nz (.var 488)
(.lett 489 (.lst (.int .u8)) (.lcat (.var 149) (.var 341))
(.lett 586 (.int .i64) (.llen (.var 489))
(.lett 587 .bit (.cmp .leq (.lit 0) (.lit 0))
(.lett 588 .bit (.cmp .lss (.lit 0) (.var 586))
(.nz (.var 587)
(.nz (.var 588)
(.lett 634 (.int .u8) (.lget (.var 489) (.lit 0))
(.req 2 [.var 2,.var 3]
(.lett 874 .bit (.app 2 0 [.var 2,.var 3])
(.req 1 [.var 4,.var 874]
(.lett 922 (.int .u8) (.app 1 0 [.var 4,.var 874])
(.lett 970 (.int .u8) (.bin .or .u8 (.var 634) (.var 922))
(.lett 1018 (.int .i64) (.llen (.var 489))
(.lett 1019 .bit (.cmp .leq (.lit 0) (.lit 0))
(.lett 1020 .bit (.cmp .lss (.lit 0) (.var 1018))
(.nz (.var 1019)
(.nz (.var 1020)
(.lett 1066 (.lst (.int .u8)) (.lput (.var 489) (.lit 0) (.var 970))
(.ret [.var 1066])))))))))))))))))))))))))))))
theorem law_rBytes2 (te:TypeId) (f1 f2 f3 f:FuncId) (e:Nat->Int) (hk:kkHas [.num,.num,.num,.num,.bit] [e 0,e 1,e 2,e 3,e 4]) (hp:(kRBytes2 te f).pre [e 0,e 1,e 2,e 3,e 4]):tR5Bytes2.says [kWBytes te f1,kRFlags f2,kGreat2 f3] ⟨fun ys=>ys=(kRBytes2 te f).sem [e 0,e 1,e 2,e 3,e 4],[]⟩ e:=by
 have u1:e 1<bP:=hp
 have ht:=top_byte hk.2.1.1 u1
 have ho:=or8 ht
 refine ⟨trivial,fun a149 _=>⟨trivial,fun a341 _ a485 _ a486 _ a487 _ a488 _=>?_⟩⟩
 have d149:dec (e 149)=bytesV (e 1):=by rw [show e 149=enc (bytesV (e 1)) from a149,dec_enc]
 have d341:dec (e 341)=bytesV (e 0):=by rw [show e 341=enc (bytesV (e 0)) from a341,dec_enc]
 have v485:e 485=48:=by rw [show e 485=((dec (e 149)).length:Int) from a485,d149,bytesV_len];rfl
 have v487:e 487=48:=by rw [show e 487=((dec (e 341)).length:Int) from a487,d341,bytesV_len];rfl
 refine ⟨lt_nz a486 (by show e 485<2147483648;omega),lt_nz a488 (by show e 487<2147483648;omega),fun a489 _ a586 _ a587 _ a588 _=>?_⟩
 have d489:dec (e 489)=bytesV (e 1)++bytesV (e 0):=by rw [show e 489=enc (dec (e 149)++dec (e 341)) from a489,dec_enc,d149,d341]
 have hlen:∀ {v:Int},v=((dec (e 489)).length:Int)->0<v:=fun h=>by rw [h,d489,cat_len];decide
 refine ⟨bit_nz a587 (Int.le_refl _),lt_nz a588 (hlen a586),fun a634 _=>⟨trivial,fun a874 _=>⟨trivial,fun a922 _ a970 _ a1018 _ a1019 _ a1020 _=>⟨bit_nz a1019 (Int.le_refl _),lt_nz a1020 (hlen a1018),fun a1066 _=>?_⟩⟩⟩⟩
 have v634:e 634=byteAt (e 1) 47:=by rw [show e 634=(dec (e 489)).getD 0 0 from a634,d489,cat_0]
 have v874:e 874=bj (great2 (e 2,e 3)):=a874
 have v922:e 922=if e 4=0 then (if e 874=0 then 128 else 160) else 192:=a922
 have v970:e 970=byteAt (e 1) 47+flag2 (e 2) (e 3) (e 4):=by
  rw [show e 970=binE .or .u8 (e 634) (e 922) from a970,v634,v922]
  unfold flag2
  by_cases h:e 4=0
  ·rw [if_pos h,if_pos h]
   by_cases h2:e 874=0
   ·rw [if_pos h2,if_neg (bj_z v874 h2),ho.1]
   ·rw [if_neg h2,if_pos (bj_nz v874 h2),ho.2.2.2.2]
  ·rw [if_neg h,if_neg h,ho.2.2.2.1]
 show [e 1066]=[enc (bytes2V (e 0) (e 1) (e 2) (e 3) (e 4))]
 rw [show e 1066=enc ((dec (e 489)).set 0 (e 970)) from a1066,d489,v970];rfl
end Go.Sx
